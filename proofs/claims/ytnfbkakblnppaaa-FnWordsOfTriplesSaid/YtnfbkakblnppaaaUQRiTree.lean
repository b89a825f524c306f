/- Words of right triples, of both programs: to the triple and back. -/
import Derived.Test.YtnfbkakblnppaaaUx4
import Derived.Test.YtnfbkakblnppaaaUx5
import Derived.Test.YtnfbkakblnppaaaUx6
import Derived.Test.YtnfbkakblnppaaaUx7
import Derived.Test.YtnfbkakblnppaaaUx10
import Derived.Test.YtnfbkakblnppaaaUx11
import Derived.Test.YtnfbkakblnppaaaUQRiWord
namespace Go.Proofs.Ytnfbkakblnppaaa.Q
open Go.RowKit Go.Proofs.Ytnfbkakblnppaaa.P Go.Proofs.YtnfbkakblnppaaaW.PrintWords Go.Proofs.YtnfbkakblnppaaaW.PrintLast
def toI (w : List Nat) : List Int := w.map Int.ofNat
theorem toI_snoc (w : List Nat) (k : Nat) : toI (w ++ [k]) = toI w ++ [(k : Int)] := by simp [toI]
theorem toI_len (w : List Nat) : (toI w).length = w.length := by simp [toI]
def sumP (o : Nat) (w : List Nat) : Nat := (reach o w).1 * (reach o w).1 + (reach o w).2 * (reach o w).2
theorem sum_mono (o : Nat) (v : List Nat) : ∀ s, sumP o v ≤ sumP o (v ++ s) := by
  intro s
  refine snoc_ind (P := fun s => sumP o v ≤ sumP o (v ++ s)) (by simp) (fun s k ih => ?_) s
  rw [← List.append_assoc]
  refine Nat.le_trans ih ?_
  unfold sumP
  rw [reach_snoc]
  exact (kid_grow (reach_pair o (v ++ s)) (k + o)).2
theorem sum_small {o : Nat} {w : List Nat} (h : sumP o w ≤ 1000000000) : (reach o w).1 ≤ 31622 ∧ OkP (reach o w).1 (reach o w).2 ∧ w.length ≤ 31622 := by
  have hok : OkP (reach o w).1 (reach o w).2 := ⟨reach_pair o w, h⟩
  have := reach_long o w
  have := hok.small
  exact ⟨this, hok, by omega⟩
theorem sum_pre {o : Nat} {w : List Nat} {k : Nat} (h : sumP o (w ++ [k]) ≤ 1000000000) : sumP o w ≤ 1000000000 := Nat.le_trans (sum_mono o w [k]) h
def rightW (o : Nat) (w : List Nat) : List Int × Bool := if sumP o w ≤ 1000000000 then (trip (reach o w).1 (reach o w).2, true) else ([], false)
def isPathB (l : List Int) : Bool := decide (l.length ≤ 40) && allB 0 2 l
def rightR (o : Nat) (l : List Int) : List Int × Bool := if isPathB l = true then rightW o (l.map Int.toNat) else ([], false)
theorem digs_of {l : List Int} (h : allB 0 2 l = true) : Digs (l.map Int.toNat) ∧ toI (l.map Int.toNat) = l := by
  induction l with
  | nil => exact ⟨fun k hk => by simp at hk, rfl⟩
  | cons a l ih =>
    simp only [allB, List.all_cons, Bool.and_eq_true, decide_eq_true_eq] at h
    obtain ⟨h1, h2⟩ := ih h.2
    refine ⟨fun k hk => ?_, ?_⟩
    · rcases List.mem_cons.1 hk with rfl | hk
      · omega
      · exact h1 k hk
    · show (Int.ofNat a.toNat) :: toI (l.map Int.toNat) = a :: l
      rw [h2]
      congr 1
      show ((a.toNat : Nat) : Int) = a
      omega
theorem path_toI {w : List Nat} (h : Digs w) (hl : w.length ≤ 40) : isPathB (toI w) = true ∧ (toI w).map Int.toNat = w := by
  refine ⟨?_, ?_⟩
  · unfold isPathB
    rw [toI_len, decide_eq_true hl, Bool.true_and]
    unfold allB toI
    rw [List.all_eq_true]
    intro x hx
    obtain ⟨k, hk, rfl⟩ := List.mem_map.1 hx
    have := h k hk
    exact decide_eq_true ⟨by show (0 : Int) ≤ (k : Int); omega, by show (k : Int) ≤ 2; omega⟩
  · unfold toI
    rw [List.map_map]
    exact (List.map_congr_left (fun k _ => show (Int.toNat ∘ Int.ofNat) k = k from rfl)).trans (List.map_id' w)
theorem isPath_eq (l : List Int) : impl_isPath.f l 40 = some (isPathB l) := by
  unfold impl_isPath.f isPathB
  rw [allWithin_eq]
  by_cases h : l.length ≤ 40
  · rw [if_pos (by omega), decide_eq_true h]; rfl
  · rw [if_neg (by omega), decide_eq_false h]; rfl
theorem riWord_ev {l : List Int} (hn : l.length ≤ 1000000000000) : Ev (fun k => spec_riWord.f k l) (isPathB l) := by
  unfold spec_riWord.f isPathB
  by_cases h : l.length ≤ 40
  · rw [decide_eq_true h, Bool.true_and]
    exact Ev_true (by omega) (Ev.bind (f := fun _ t => some t) (l1All_ev 0 2 hn) Ev_some)
  · rw [decide_eq_false h, Bool.false_and]
    exact Ev_false (by omega) Ev_some
theorem kid_le {m n : Nat} (h : PairN m n) {k : Nat} : (kid k m n).1 ≤ 3 * m := by
  have hl := h.lt
  match k with
  | 0 => show 2 * m - n ≤ 3 * m; omega
  | 1 => show 2 * m + n ≤ 3 * m; omega
  | 2 => show m + 2 * n ≤ 3 * m; omega
  | 3 => show m + n ≤ 3 * m; omega
  | 4 => show 2 * m ≤ 3 * m; omega
  | k + 5 => show 2 * m ≤ 3 * m; omega

/-! ### The berg tree -/
theorem berg1_eq {m n : Nat} (h : PairN m n) (hm : m ≤ 1000000) {k : Nat} (hk : k ≤ 2) : impl_berg_1.f (m : Int) (n : Int) (k : Int) = some (((kid (k + 0) m n).1 : Int), ((kid (k + 0) m n).2 : Int)) := by
  have hl := h.lt
  unfold impl_berg_1.f
  simp only [Option.bind_some, List.length_cons, List.length_nil]
  rw [if_pos (show (0 : Int) ≤ (k : Int) by omega), if_pos (show (k : Int) < ((0 + 1 + 1 + 1 : Nat) : Int) by omega)]
  rcases (show k = 0 ∨ k = 1 ∨ k = 2 by omega) with rfl | rfl | rfl
  · show some (wrap64 (wrap64 (2 * (m : Int)) - n), (m : Int)) = some (((2 * m - n : Nat) : Int), ((m : Nat) : Int))
    congr 1
    refine Prod.ext ?_ ?_
    · show wrap64 (wrap64 (2 * (m : Int)) - n) = ((2 * m - n : Nat) : Int)
      unfold wrap64; omega
    · show (m : Int) = ((m : Nat) : Int)
      first | rfl | (unfold wrap64; omega)
  · show some (wrap64 (wrap64 (2 * (m : Int)) + n), (m : Int)) = some (((2 * m + n : Nat) : Int), ((m : Nat) : Int))
    congr 1
    refine Prod.ext ?_ ?_
    · show wrap64 (wrap64 (2 * (m : Int)) + n) = ((2 * m + n : Nat) : Int)
      unfold wrap64; omega
    · show (m : Int) = ((m : Nat) : Int)
      first | rfl | (unfold wrap64; omega)
  · show some (wrap64 ((m : Int) + wrap64 (2 * (n : Int))), (n : Int)) = some (((m + 2 * n : Nat) : Int), ((n : Nat) : Int))
    congr 1
    refine Prod.ext ?_ ?_
    · show wrap64 ((m : Int) + wrap64 (2 * (n : Int))) = ((m + 2 * n : Nat) : Int)
      unfold wrap64; omega
    · show (n : Int) = ((n : Nat) : Int)
      first | rfl | (unfold wrap64; omega)
theorem riBerg_eq {m n : Nat} (h : PairN m n) (hm : m ≤ 1000000) {k : Nat} (hk : k ≤ 2) : spec_riBerg.f (m : Int) (n : Int) (k : Int) = some (((kid (k + 0) m n).1 : Int), ((kid (k + 0) m n).2 : Int)) := by
  have hl := h.lt
  unfold spec_riBerg.f
  rcases (show k = 0 ∨ k = 1 ∨ k = 2 by omega) with rfl | rfl | rfl
  · rw [if_pos (by omega)]
    show some (wrap64 (wrap64 (2 * (m : Int)) - n), (m : Int)) = some (((2 * m - n : Nat) : Int), ((m : Nat) : Int))
    congr 1
    refine Prod.ext ?_ ?_
    · show wrap64 (wrap64 (2 * (m : Int)) - n) = ((2 * m - n : Nat) : Int)
      unfold wrap64; omega
    · show (m : Int) = ((m : Nat) : Int)
      first | rfl | (unfold wrap64; omega)
  · rw [if_neg (by omega), if_pos (by omega)]
    show some (wrap64 (wrap64 (2 * (m : Int)) + n), (m : Int)) = some (((2 * m + n : Nat) : Int), ((m : Nat) : Int))
    congr 1
    refine Prod.ext ?_ ?_
    · show wrap64 (wrap64 (2 * (m : Int)) + n) = ((2 * m + n : Nat) : Int)
      unfold wrap64; omega
    · show (m : Int) = ((m : Nat) : Int)
      first | rfl | (unfold wrap64; omega)
  · rw [if_neg (by omega), if_neg (by omega)]
    show some (wrap64 ((m : Int) + wrap64 (2 * (n : Int))), (n : Int)) = some (((m + 2 * n : Nat) : Int), ((n : Nat) : Int))
    congr 1
    refine Prod.ext ?_ ?_
    · show wrap64 ((m : Int) + wrap64 (2 * (n : Int))) = ((m + 2 * n : Nat) : Int)
      unfold wrap64; omega
    · show (n : Int) = ((n : Nat) : Int)
      first | rfl | (unfold wrap64; omega)
theorem rightByB_l0 : ∀ (s v : List Nat), Digs (v ++ s) → (v ++ s).length ≤ 40 → sumP 0 v ≤ 1000000000 → Ev (fun j => impl_tree_rightByB.l0 j (toI (v ++ s)) ((toI (v ++ s)).length : Int) (v.length : Int) ((reach 0 v).1 : Int) ((reach 0 v).2 : Int)) (rightW 0 (v ++ s))
  | [], v, hd, hn, hs => by
    obtain ⟨b1, b2, b3⟩ := sum_small hs
    refine Ev_succ ?_
    simp only [impl_tree_rightByB.l0]
    rw [List.append_nil, toI_len, right_eq (Nat.le_of_lt b2.1.lt)]
    simp only [Option.bind_some]
    refine Ev_false (by omega) ?_
    rw [show rightW 0 v = ((rightP (reach 0 v).1 (reach 0 v).2).1, (rightP (reach 0 v).1 (reach 0 v).2).2) from by
      unfold rightW rightP
      rw [if_pos hs, if_pos (show (reach 0 v).1 * (reach 0 v).1 + (reach 0 v).2 * (reach 0 v).2 ≤ 1000000000 from hs)]]
    exact Ev_some
  | k :: s, v, hd, hn, hs => by
    obtain ⟨b1, b2, b3⟩ := sum_small hs
    have hk : k ≤ 2 := hd k (by simp)
    have hr : rd (toI (v ++ k :: s)) (v.length : Int) = (k : Int) := by
      have e : toI (v ++ k :: s) = toI v ++ (k : Int) :: toI s := by simp [toI]
      rw [e, ← toI_len v]
      exact rd_mid _ _ _
    have hlen : (toI (v ++ k :: s)).length = v.length + s.length + 1 := by rw [toI_len]; simp; omega
    have hsn := reach_snoc 0 v k
    have ha : v ++ k :: s = (v ++ [k]) ++ s := by simp
    refine Ev_succ ?_
    simp only [impl_tree_rightByB.l0]
    rw [hr, berg1_eq b2.1 (by omega) hk, w64 (x := (v.length : Int) + 1) (by omega) (by omega)]
    simp only [Option.bind_some]
    have hp := b2.1.kid (k + 0)
    rw [right_eq (Nat.le_of_lt hp.lt)]
    simp only [Option.bind_some]
    refine Ev_true (by omega) (Ev_true (by omega) (Ev_true (by omega) ?_))
    by_cases hs2 : sumP 0 (v ++ [k]) ≤ 1000000000
    · have ih := rightByB_l0 s (v ++ [k]) (by rw [← ha]; exact hd) (by rw [← ha]; exact hn) hs2
      rw [← ha, hsn, show (((v ++ [k]).length : Nat) : Int) = (v.length : Int) + 1 by simp] at ih
      refine Ev_true ?_ ih
      unfold rightP
      unfold sumP at hs2
      rw [hsn] at hs2
      rw [if_pos hs2]
    · have hno : ¬ sumP 0 (v ++ k :: s) ≤ 1000000000 := fun h => hs2 (Nat.le_trans (by rw [ha]; exact sum_mono 0 (v ++ [k]) s) h)
      rw [show rightW 0 (v ++ k :: s) = ([], false) from if_neg hno]
      refine Ev_false ?_ Ev_some
      unfold rightP
      unfold sumP at hs2
      rw [hsn] at hs2
      rw [if_neg hs2]
      simp
theorem foRightByB_l0 : ∀ (s v : List Nat), Digs (v ++ s) → (v ++ s).length ≤ 40 → sumP 0 v ≤ 1000000000 → Ev (fun j => spec_RightByBerg.l0 j ((reach 0 v).1 : Int) ((reach 0 v).2 : Int) (toI (v ++ s)) ((toI (v ++ s)).length : Int) (v.length : Int)) (rightW 0 (v ++ s))
  | [], v, hd, hn, hs => by
    obtain ⟨b1, b2, b3⟩ := sum_small hs
    refine Ev_succ ?_
    simp only [spec_RightByBerg.l0]
    rw [List.append_nil, toI_len, riOf_eq (Nat.le_of_lt b2.1.lt) (by omega)]
    simp only [Option.bind_some]
    refine Ev_false (by omega) ?_
    rw [show rightW 0 v = (trip (reach 0 v).1 (reach 0 v).2, true) from if_pos hs]
    exact Ev_some
  | k :: s, v, hd, hn, hs => by
    obtain ⟨b1, b2, b3⟩ := sum_small hs
    have hk : k ≤ 2 := hd k (by simp)
    have hr : rd (toI (v ++ k :: s)) (v.length : Int) = (k : Int) := by
      have e : toI (v ++ k :: s) = toI v ++ (k : Int) :: toI s := by simp [toI]
      rw [e, ← toI_len v]
      exact rd_mid _ _ _
    have hlen : (toI (v ++ k :: s)).length = v.length + s.length + 1 := by rw [toI_len]; simp; omega
    have hsn := reach_snoc 0 v k
    have ha : v ++ k :: s = (v ++ [k]) ++ s := by simp
    refine Ev_succ ?_
    simp only [spec_RightByBerg.l0]
    rw [hr, riBerg_eq b2.1 (by omega) hk, w64 (x := (v.length : Int) + 1) (by omega) (by omega)]
    simp only [Option.bind_some]
    have hp := b2.1.kid (k + 0)
    have hkb : (kid (k + 0) (reach 0 v).1 (reach 0 v).2).1 ≤ 1000000 := by
      have := kid_le b2.1 (k := k + 0)
      omega
    refine Ev_true (by omega) (Ev_true (by omega) (Ev_true (by omega) (Ev.bind (riPair_ev (by omega) (by have := hp.lt; omega)) ?_)))
    by_cases hs2 : sumP 0 (v ++ [k]) ≤ 1000000000
    · have ih := foRightByB_l0 s (v ++ [k]) (by rw [← ha]; exact hd) (by rw [← ha]; exact hn) hs2
      rw [← ha, hsn, show (((v ++ [k]).length : Nat) : Int) = (v.length : Int) + 1 by simp] at ih
      refine Ev_true (decide_eq_true ⟨hp, ?_⟩) ih
      unfold sumP at hs2
      rw [hsn] at hs2
      exact hs2
    · have hno : ¬ sumP 0 (v ++ k :: s) ≤ 1000000000 := fun h => hs2 (Nat.le_trans (by rw [ha]; exact sum_mono 0 (v ++ [k]) s) h)
      rw [show rightW 0 (v ++ k :: s) = ([], false) from if_neg hno]
      refine Ev_false ?_ Ev_some
      unfold sumP at hs2
      rw [hsn] at hs2
      exact fun q => hs2 (of_decide_eq_true q).2
theorem impl_rightB (l : List Int) : Ev (fun j => impl_RightByBerg.f j l) (rightR 0 l) := by
  unfold impl_RightByBerg.f impl_berg.f
  simp only [Option.bind_some]
  refine Ev.bind (a := rightR 0 l) (f := fun _ (b : List Int × Bool) => some (b.1, b.2)) ?_ Ev_some
  unfold impl_tree_rightByB.f rightR
  rw [isPath_eq]
  simp only [Option.bind_some]
  by_cases h : isPathB l = true
  · rw [if_pos h]
    refine Ev_true h ?_
    have h2 := h
    unfold isPathB at h2
    simp only [Bool.and_eq_true, decide_eq_true_eq] at h2
    obtain ⟨d1, d2⟩ := digs_of h2.2
    have g := rightByB_l0 (l.map Int.toNat) [] d1 (by simpa using h2.1) (by decide)
    rw [List.nil_append, d2] at g
    exact g
  · rw [if_neg h]
    exact Ev_false h Ev_some
theorem spec_rightB {l : List Int} (hn : l.length ≤ 1000000000000) : Ev (fun j => spec_RightByBerg.f j l) (rightR 0 l) := by
  unfold spec_RightByBerg.f rightR
  refine Ev.bind (riWord_ev hn) ?_
  by_cases h : isPathB l = true
  · rw [if_pos h]
    refine Ev_true h ?_
    have h2 := h
    unfold isPathB at h2
    simp only [Bool.and_eq_true, decide_eq_true_eq] at h2
    obtain ⟨d1, d2⟩ := digs_of h2.2
    have g := foRightByB_l0 (l.map Int.toNat) [] d1 (by simpa using h2.1) (by decide)
    rw [List.nil_append, d2] at g
    exact g
  · rw [if_neg h]
    exact Ev_false h Ev_some
theorem upsB_snoc {w : List Nat} {k : Nat} (hk : k ≤ 2) : ups 0 (reach 0 (w ++ [k])).1 (reach 0 (w ++ [k])).2 = (((reach 0 w).1 : Int), ((reach 0 w).2 : Int), (k : Int)) := by
  obtain ⟨h1, h2⟩ := upI_kid (o := 0) (by omega) (reach_pair 0 w) hk
  rw [reach_snoc]
  unfold ups
  rw [if_neg h2, h1]
theorem wordOfB_ev (w : List Nat) : Digs w → sumP 0 w ≤ 1000000000 → ∀ acc : List Int, acc.length + w.length ≤ 1000000 → Ev (fun j => impl_tree_wordOfB.l0 j acc (ups 0 (reach 0 w).1 (reach 0 w).2).2.2 (ups 0 (reach 0 w).1 (reach 0 w).2).1 (ups 0 (reach 0 w).1 (reach 0 w).2).2.1) (toI w ++ acc.reverse, true) := by
  refine snoc_ind (P := fun w => Digs w → sumP 0 w ≤ 1000000000 → ∀ acc : List Int, acc.length + w.length ≤ 1000000 → Ev (fun j => impl_tree_wordOfB.l0 j acc (ups 0 (reach 0 w).1 (reach 0 w).2).2.2 (ups 0 (reach 0 w).1 (reach 0 w).2).1 (ups 0 (reach 0 w).1 (reach 0 w).2).2.1) (toI w ++ acc.reverse, true)) (fun hd hs acc hn => ?_) (fun w k ih hd hs acc hn => ?_) w
  · rw [show ups 0 (reach 0 []).1 (reach 0 []).2 = (2, 1, -1) from rfl]
    refine Ev_succ ?_
    simp only [impl_tree_wordOfB.l0]
    refine Ev_false (by omega) (Ev.bind (f := fun _ (t : List Int) => some (t, true)) (reverse_ev acc (by omega)) Ev_some)
  · have hk : k ≤ 2 := hd k (by simp)
    have hs0 := sum_pre hs
    obtain ⟨b1, b2, b3⟩ := sum_small hs0
    rw [upsB_snoc hk]
    refine Ev_succ ?_
    simp only [impl_tree_wordOfB.l0]
    rw [berg2_eq b2.1 (by omega)]
    simp only [Option.bind_some]
    simp only [List.length_append, List.length_singleton] at hn
    have h := ih (fun x hx => hd x (by simp [hx])) hs0 (acc ++ [(k : Int)]) (by simp only [List.length_append, List.length_singleton]; omega)
    rw [show toI (w ++ [k]) ++ acc.reverse = toI w ++ (acc ++ [(k : Int)]).reverse by rw [toI_snoc]; simp]
    exact Ev_true (by omega) (Ev_true (by omega) h)
theorem foWordOfB_ev (w : List Nat) : Digs w → sumP 0 w ≤ 1000000000 → ∀ acc : List Int, acc.length + w.length ≤ 1000000 → Ev (fun j => spec_BergWord.l0 j acc ((reach 0 w).1 : Int) ((reach 0 w).2 : Int)) (toI w ++ acc, true) := by
  refine snoc_ind (P := fun w => Digs w → sumP 0 w ≤ 1000000000 → ∀ acc : List Int, acc.length + w.length ≤ 1000000 → Ev (fun j => spec_BergWord.l0 j acc ((reach 0 w).1 : Int) ((reach 0 w).2 : Int)) (toI w ++ acc, true)) (fun hd hs acc hn => ?_) (fun w k ih hd hs acc hn => ?_) w
  · refine Ev_succ ?_
    simp only [spec_BergWord.l0]
    exact Ev_false (show ¬ ((2 : Nat) : Int) > 2 by omega) Ev_some
  · have hk : k ≤ 2 := hd k (by simp)
    have hs0 := sum_pre hs
    obtain ⟨b1, b2, b3⟩ := sum_small hs0
    obtain ⟨c1, c2, c3⟩ := sum_small hs
    have hl := reach_long 0 (w ++ [k])
    obtain ⟨h1, h2⟩ := upI_kid (o := 0) (by omega) (reach_pair 0 w) hk
    rw [← reach_snoc] at h1 h2
    refine Ev_succ ?_
    simp only [spec_BergWord.l0, List.length_cons, List.length_nil, Option.bind_some]
    rw [bergUp_eq c2.1 (by omega), h1]
    simp only [Option.bind_some]
    simp only [List.length_append, List.length_singleton] at hn hl
    have h := ih (fun x hx => hd x (by simp [hx])) hs0 ([(k : Int)] ++ acc) (by simp only [List.length_append, List.length_singleton]; omega)
    rw [show toI (w ++ [k]) ++ acc = toI w ++ ([(k : Int)] ++ acc) by rw [toI_snoc]; simp]
    exact Ev_true (by omega) (Ev_true (by omega) h)
theorem wordB_trip {w : List Nat} (hd : Digs w) (hs : sumP 0 w ≤ 1000000000) : Ev (fun j => impl_BergWord.f j (trip (reach 0 w).1 (reach 0 w).2)) (toI w, true) := by
  obtain ⟨b1, b2, b3⟩ := sum_small hs
  unfold impl_BergWord.f impl_berg.f
  simp only [Option.bind_some]
  refine Ev.bind (a := (toI w, true)) (f := fun _ (b : List Int × Bool) => some (b.1, b.2)) ?_ Ev_some
  unfold impl_tree_wordOfB.f
  have h1 := isRight_ev (trip (reach 0 w).1 (reach 0 w).2)
  rw [isR_true ⟨_, _, b2, rfl⟩] at h1
  refine Ev.bind h1 (Ev_true rfl (Ev.bind (pairOf_ev b2) ?_))
  simp only
  rw [berg2_eq b2.1 (by omega)]
  simp only [Option.bind_some]
  have h := wordOfB_ev w hd hs [] (by simp; omega)
  simpa using h
theorem foWordB_trip {w : List Nat} (hd : Digs w) (hs : sumP 0 w ≤ 1000000000) : Ev (fun j => spec_BergWord.f j (trip (reach 0 w).1 (reach 0 w).2)) (toI w, true) := by
  obtain ⟨b1, b2, b3⟩ := sum_small hs
  unfold spec_BergWord.f
  have h1 := riGood_ev (trip (reach 0 w).1 (reach 0 w).2)
  rw [isR_true ⟨_, _, b2, rfl⟩] at h1
  refine Ev.bind h1 (Ev_true rfl (Ev.bind (back_trip b2) ?_))
  have h := foWordOfB_ev w hd hs [] (by simp; omega)
  simpa using h
theorem wordB_no {t : List Int} (h : ¬ GoodT t) : Ev (fun j => impl_BergWord.f j t) (([] : List Int), false) := by
  unfold impl_BergWord.f impl_berg.f
  simp only [Option.bind_some]
  refine Ev.bind (a := (([] : List Int), false)) (f := fun _ (b : List Int × Bool) => some (b.1, b.2)) ?_ Ev_some
  unfold impl_tree_wordOfB.f
  have h1 := isRight_ev t
  rw [isR_false h] at h1
  exact Ev.bind h1 (Ev_false (by simp) Ev_some)
theorem foWordB_no {t : List Int} (h : ¬ GoodT t) : Ev (fun j => spec_BergWord.f j t) (([] : List Int), false) := by
  unfold spec_BergWord.f
  have h1 := riGood_ev t
  rw [isR_false h] at h1
  exact Ev.bind h1 (Ev_false (by simp) Ev_some)

/-! ### The price tree -/
theorem price1_eq {m n : Nat} (h : PairN m n) (hm : m ≤ 1000000) {k : Nat} (hk : k ≤ 2) : impl_price_1.f (m : Int) (n : Int) (k : Int) = some (((kid (k + 3) m n).1 : Int), ((kid (k + 3) m n).2 : Int)) := by
  have hl := h.lt
  unfold impl_price_1.f
  simp only [Option.bind_some, List.length_cons, List.length_nil]
  rw [if_pos (show (0 : Int) ≤ (k : Int) by omega), if_pos (show (k : Int) < ((0 + 1 + 1 + 1 : Nat) : Int) by omega)]
  rcases (show k = 0 ∨ k = 1 ∨ k = 2 by omega) with rfl | rfl | rfl
  · show some (wrap64 ((m : Int) + n), wrap64 (2 * (n : Int))) = some (((m + n : Nat) : Int), ((2 * n : Nat) : Int))
    congr 1
    refine Prod.ext ?_ ?_
    · show wrap64 ((m : Int) + n) = ((m + n : Nat) : Int)
      unfold wrap64; omega
    · show wrap64 (2 * (n : Int)) = ((2 * n : Nat) : Int)
      first | rfl | (unfold wrap64; omega)
  · show some (wrap64 (2 * (m : Int)), wrap64 ((m : Int) - n)) = some (((2 * m : Nat) : Int), ((m - n : Nat) : Int))
    congr 1
    refine Prod.ext ?_ ?_
    · show wrap64 (2 * (m : Int)) = ((2 * m : Nat) : Int)
      unfold wrap64; omega
    · show wrap64 ((m : Int) - n) = ((m - n : Nat) : Int)
      first | rfl | (unfold wrap64; omega)
  · show some (wrap64 (2 * (m : Int)), wrap64 ((m : Int) + n)) = some (((2 * m : Nat) : Int), ((m + n : Nat) : Int))
    congr 1
    refine Prod.ext ?_ ?_
    · show wrap64 (2 * (m : Int)) = ((2 * m : Nat) : Int)
      unfold wrap64; omega
    · show wrap64 ((m : Int) + n) = ((m + n : Nat) : Int)
      first | rfl | (unfold wrap64; omega)
theorem riPrice_eq {m n : Nat} (h : PairN m n) (hm : m ≤ 1000000) {k : Nat} (hk : k ≤ 2) : spec_riPrice.f (m : Int) (n : Int) (k : Int) = some (((kid (k + 3) m n).1 : Int), ((kid (k + 3) m n).2 : Int)) := by
  have hl := h.lt
  unfold spec_riPrice.f
  rcases (show k = 0 ∨ k = 1 ∨ k = 2 by omega) with rfl | rfl | rfl
  · rw [if_pos (by omega)]
    show some (wrap64 ((m : Int) + n), wrap64 (2 * (n : Int))) = some (((m + n : Nat) : Int), ((2 * n : Nat) : Int))
    congr 1
    refine Prod.ext ?_ ?_
    · show wrap64 ((m : Int) + n) = ((m + n : Nat) : Int)
      unfold wrap64; omega
    · show wrap64 (2 * (n : Int)) = ((2 * n : Nat) : Int)
      first | rfl | (unfold wrap64; omega)
  · rw [if_neg (by omega), if_pos (by omega)]
    show some (wrap64 (2 * (m : Int)), wrap64 ((m : Int) - n)) = some (((2 * m : Nat) : Int), ((m - n : Nat) : Int))
    congr 1
    refine Prod.ext ?_ ?_
    · show wrap64 (2 * (m : Int)) = ((2 * m : Nat) : Int)
      unfold wrap64; omega
    · show wrap64 ((m : Int) - n) = ((m - n : Nat) : Int)
      first | rfl | (unfold wrap64; omega)
  · rw [if_neg (by omega), if_neg (by omega)]
    show some (wrap64 (2 * (m : Int)), wrap64 ((m : Int) + n)) = some (((2 * m : Nat) : Int), ((m + n : Nat) : Int))
    congr 1
    refine Prod.ext ?_ ?_
    · show wrap64 (2 * (m : Int)) = ((2 * m : Nat) : Int)
      unfold wrap64; omega
    · show wrap64 ((m : Int) + n) = ((m + n : Nat) : Int)
      first | rfl | (unfold wrap64; omega)
theorem rightByP_l0 : ∀ (s v : List Nat), Digs (v ++ s) → (v ++ s).length ≤ 40 → sumP 3 v ≤ 1000000000 → Ev (fun j => impl_tree_rightByP.l0 j (toI (v ++ s)) ((toI (v ++ s)).length : Int) (v.length : Int) ((reach 3 v).1 : Int) ((reach 3 v).2 : Int)) (rightW 3 (v ++ s))
  | [], v, hd, hn, hs => by
    obtain ⟨b1, b2, b3⟩ := sum_small hs
    refine Ev_succ ?_
    simp only [impl_tree_rightByP.l0]
    rw [List.append_nil, toI_len, right_eq (Nat.le_of_lt b2.1.lt)]
    simp only [Option.bind_some]
    refine Ev_false (by omega) ?_
    rw [show rightW 3 v = ((rightP (reach 3 v).1 (reach 3 v).2).1, (rightP (reach 3 v).1 (reach 3 v).2).2) from by
      unfold rightW rightP
      rw [if_pos hs, if_pos (show (reach 3 v).1 * (reach 3 v).1 + (reach 3 v).2 * (reach 3 v).2 ≤ 1000000000 from hs)]]
    exact Ev_some
  | k :: s, v, hd, hn, hs => by
    obtain ⟨b1, b2, b3⟩ := sum_small hs
    have hk : k ≤ 2 := hd k (by simp)
    have hr : rd (toI (v ++ k :: s)) (v.length : Int) = (k : Int) := by
      have e : toI (v ++ k :: s) = toI v ++ (k : Int) :: toI s := by simp [toI]
      rw [e, ← toI_len v]
      exact rd_mid _ _ _
    have hlen : (toI (v ++ k :: s)).length = v.length + s.length + 1 := by rw [toI_len]; simp; omega
    have hsn := reach_snoc 3 v k
    have ha : v ++ k :: s = (v ++ [k]) ++ s := by simp
    refine Ev_succ ?_
    simp only [impl_tree_rightByP.l0]
    rw [hr, price1_eq b2.1 (by omega) hk, w64 (x := (v.length : Int) + 1) (by omega) (by omega)]
    simp only [Option.bind_some]
    have hp := b2.1.kid (k + 3)
    rw [right_eq (Nat.le_of_lt hp.lt)]
    simp only [Option.bind_some]
    refine Ev_true (by omega) (Ev_true (by omega) (Ev_true (by omega) ?_))
    by_cases hs2 : sumP 3 (v ++ [k]) ≤ 1000000000
    · have ih := rightByP_l0 s (v ++ [k]) (by rw [← ha]; exact hd) (by rw [← ha]; exact hn) hs2
      rw [← ha, hsn, show (((v ++ [k]).length : Nat) : Int) = (v.length : Int) + 1 by simp] at ih
      refine Ev_true ?_ ih
      unfold rightP
      unfold sumP at hs2
      rw [hsn] at hs2
      rw [if_pos hs2]
    · have hno : ¬ sumP 3 (v ++ k :: s) ≤ 1000000000 := fun h => hs2 (Nat.le_trans (by rw [ha]; exact sum_mono 3 (v ++ [k]) s) h)
      rw [show rightW 3 (v ++ k :: s) = ([], false) from if_neg hno]
      refine Ev_false ?_ Ev_some
      unfold rightP
      unfold sumP at hs2
      rw [hsn] at hs2
      rw [if_neg hs2]
      simp
theorem foRightByP_l0 : ∀ (s v : List Nat), Digs (v ++ s) → (v ++ s).length ≤ 40 → sumP 3 v ≤ 1000000000 → Ev (fun j => spec_RightByPrice.l0 j ((reach 3 v).1 : Int) ((reach 3 v).2 : Int) (toI (v ++ s)) ((toI (v ++ s)).length : Int) (v.length : Int)) (rightW 3 (v ++ s))
  | [], v, hd, hn, hs => by
    obtain ⟨b1, b2, b3⟩ := sum_small hs
    refine Ev_succ ?_
    simp only [spec_RightByPrice.l0]
    rw [List.append_nil, toI_len, riOf_eq (Nat.le_of_lt b2.1.lt) (by omega)]
    simp only [Option.bind_some]
    refine Ev_false (by omega) ?_
    rw [show rightW 3 v = (trip (reach 3 v).1 (reach 3 v).2, true) from if_pos hs]
    exact Ev_some
  | k :: s, v, hd, hn, hs => by
    obtain ⟨b1, b2, b3⟩ := sum_small hs
    have hk : k ≤ 2 := hd k (by simp)
    have hr : rd (toI (v ++ k :: s)) (v.length : Int) = (k : Int) := by
      have e : toI (v ++ k :: s) = toI v ++ (k : Int) :: toI s := by simp [toI]
      rw [e, ← toI_len v]
      exact rd_mid _ _ _
    have hlen : (toI (v ++ k :: s)).length = v.length + s.length + 1 := by rw [toI_len]; simp; omega
    have hsn := reach_snoc 3 v k
    have ha : v ++ k :: s = (v ++ [k]) ++ s := by simp
    refine Ev_succ ?_
    simp only [spec_RightByPrice.l0]
    rw [hr, riPrice_eq b2.1 (by omega) hk, w64 (x := (v.length : Int) + 1) (by omega) (by omega)]
    simp only [Option.bind_some]
    have hp := b2.1.kid (k + 3)
    have hkb : (kid (k + 3) (reach 3 v).1 (reach 3 v).2).1 ≤ 1000000 := by
      have := kid_le b2.1 (k := k + 3)
      omega
    refine Ev_true (by omega) (Ev_true (by omega) (Ev_true (by omega) (Ev.bind (riPair_ev (by omega) (by have := hp.lt; omega)) ?_)))
    by_cases hs2 : sumP 3 (v ++ [k]) ≤ 1000000000
    · have ih := foRightByP_l0 s (v ++ [k]) (by rw [← ha]; exact hd) (by rw [← ha]; exact hn) hs2
      rw [← ha, hsn, show (((v ++ [k]).length : Nat) : Int) = (v.length : Int) + 1 by simp] at ih
      refine Ev_true (decide_eq_true ⟨hp, ?_⟩) ih
      unfold sumP at hs2
      rw [hsn] at hs2
      exact hs2
    · have hno : ¬ sumP 3 (v ++ k :: s) ≤ 1000000000 := fun h => hs2 (Nat.le_trans (by rw [ha]; exact sum_mono 3 (v ++ [k]) s) h)
      rw [show rightW 3 (v ++ k :: s) = ([], false) from if_neg hno]
      refine Ev_false ?_ Ev_some
      unfold sumP at hs2
      rw [hsn] at hs2
      exact fun q => hs2 (of_decide_eq_true q).2
theorem impl_rightP (l : List Int) : Ev (fun j => impl_RightByPrice.f j l) (rightR 3 l) := by
  unfold impl_RightByPrice.f impl_price.f
  simp only [Option.bind_some]
  refine Ev.bind (a := rightR 3 l) (f := fun _ (b : List Int × Bool) => some (b.1, b.2)) ?_ Ev_some
  unfold impl_tree_rightByP.f rightR
  rw [isPath_eq]
  simp only [Option.bind_some]
  by_cases h : isPathB l = true
  · rw [if_pos h]
    refine Ev_true h ?_
    have h2 := h
    unfold isPathB at h2
    simp only [Bool.and_eq_true, decide_eq_true_eq] at h2
    obtain ⟨d1, d2⟩ := digs_of h2.2
    have g := rightByP_l0 (l.map Int.toNat) [] d1 (by simpa using h2.1) (by decide)
    rw [List.nil_append, d2] at g
    exact g
  · rw [if_neg h]
    exact Ev_false h Ev_some
theorem spec_rightP {l : List Int} (hn : l.length ≤ 1000000000000) : Ev (fun j => spec_RightByPrice.f j l) (rightR 3 l) := by
  unfold spec_RightByPrice.f rightR
  refine Ev.bind (riWord_ev hn) ?_
  by_cases h : isPathB l = true
  · rw [if_pos h]
    refine Ev_true h ?_
    have h2 := h
    unfold isPathB at h2
    simp only [Bool.and_eq_true, decide_eq_true_eq] at h2
    obtain ⟨d1, d2⟩ := digs_of h2.2
    have g := foRightByP_l0 (l.map Int.toNat) [] d1 (by simpa using h2.1) (by decide)
    rw [List.nil_append, d2] at g
    exact g
  · rw [if_neg h]
    exact Ev_false h Ev_some
theorem upsP_snoc {w : List Nat} {k : Nat} (hk : k ≤ 2) : ups 3 (reach 3 (w ++ [k])).1 (reach 3 (w ++ [k])).2 = (((reach 3 w).1 : Int), ((reach 3 w).2 : Int), (k : Int)) := by
  obtain ⟨h1, h2⟩ := upI_kid (o := 3) (by omega) (reach_pair 3 w) hk
  rw [reach_snoc]
  unfold ups
  rw [if_neg h2, h1]
theorem wordOfP_ev (w : List Nat) : Digs w → sumP 3 w ≤ 1000000000 → ∀ acc : List Int, acc.length + w.length ≤ 1000000 → Ev (fun j => impl_tree_wordOfP.l0 j acc (ups 3 (reach 3 w).1 (reach 3 w).2).2.2 (ups 3 (reach 3 w).1 (reach 3 w).2).1 (ups 3 (reach 3 w).1 (reach 3 w).2).2.1) (toI w ++ acc.reverse, true) := by
  refine snoc_ind (P := fun w => Digs w → sumP 3 w ≤ 1000000000 → ∀ acc : List Int, acc.length + w.length ≤ 1000000 → Ev (fun j => impl_tree_wordOfP.l0 j acc (ups 3 (reach 3 w).1 (reach 3 w).2).2.2 (ups 3 (reach 3 w).1 (reach 3 w).2).1 (ups 3 (reach 3 w).1 (reach 3 w).2).2.1) (toI w ++ acc.reverse, true)) (fun hd hs acc hn => ?_) (fun w k ih hd hs acc hn => ?_) w
  · rw [show ups 3 (reach 3 []).1 (reach 3 []).2 = (2, 1, -1) from rfl]
    refine Ev_succ ?_
    simp only [impl_tree_wordOfP.l0]
    refine Ev_false (by omega) (Ev.bind (f := fun _ (t : List Int) => some (t, true)) (reverse_ev acc (by omega)) Ev_some)
  · have hk : k ≤ 2 := hd k (by simp)
    have hs0 := sum_pre hs
    obtain ⟨b1, b2, b3⟩ := sum_small hs0
    rw [upsP_snoc hk]
    refine Ev_succ ?_
    simp only [impl_tree_wordOfP.l0]
    rw [price2_eq b2.1 (by omega)]
    simp only [Option.bind_some]
    simp only [List.length_append, List.length_singleton] at hn
    have h := ih (fun x hx => hd x (by simp [hx])) hs0 (acc ++ [(k : Int)]) (by simp only [List.length_append, List.length_singleton]; omega)
    rw [show toI (w ++ [k]) ++ acc.reverse = toI w ++ (acc ++ [(k : Int)]).reverse by rw [toI_snoc]; simp]
    exact Ev_true (by omega) (Ev_true (by omega) h)
theorem foWordOfP_ev (w : List Nat) : Digs w → sumP 3 w ≤ 1000000000 → ∀ acc : List Int, acc.length + w.length ≤ 1000000 → Ev (fun j => spec_PriceWord.l0 j acc ((reach 3 w).1 : Int) ((reach 3 w).2 : Int)) (toI w ++ acc, true) := by
  refine snoc_ind (P := fun w => Digs w → sumP 3 w ≤ 1000000000 → ∀ acc : List Int, acc.length + w.length ≤ 1000000 → Ev (fun j => spec_PriceWord.l0 j acc ((reach 3 w).1 : Int) ((reach 3 w).2 : Int)) (toI w ++ acc, true)) (fun hd hs acc hn => ?_) (fun w k ih hd hs acc hn => ?_) w
  · refine Ev_succ ?_
    simp only [spec_PriceWord.l0]
    exact Ev_false (show ¬ ((2 : Nat) : Int) > 2 by omega) Ev_some
  · have hk : k ≤ 2 := hd k (by simp)
    have hs0 := sum_pre hs
    obtain ⟨b1, b2, b3⟩ := sum_small hs0
    obtain ⟨c1, c2, c3⟩ := sum_small hs
    have hl := reach_long 3 (w ++ [k])
    obtain ⟨h1, h2⟩ := upI_kid (o := 3) (by omega) (reach_pair 3 w) hk
    rw [← reach_snoc] at h1 h2
    refine Ev_succ ?_
    simp only [spec_PriceWord.l0, List.length_cons, List.length_nil, Option.bind_some]
    rw [priceUp_eq c2.1 (by omega), h1]
    simp only [Option.bind_some]
    simp only [List.length_append, List.length_singleton] at hn hl
    have h := ih (fun x hx => hd x (by simp [hx])) hs0 ([(k : Int)] ++ acc) (by simp only [List.length_append, List.length_singleton]; omega)
    rw [show toI (w ++ [k]) ++ acc = toI w ++ ([(k : Int)] ++ acc) by rw [toI_snoc]; simp]
    exact Ev_true (by omega) (Ev_true (by omega) h)
theorem wordP_trip {w : List Nat} (hd : Digs w) (hs : sumP 3 w ≤ 1000000000) : Ev (fun j => impl_PriceWord.f j (trip (reach 3 w).1 (reach 3 w).2)) (toI w, true) := by
  obtain ⟨b1, b2, b3⟩ := sum_small hs
  unfold impl_PriceWord.f impl_price.f
  simp only [Option.bind_some]
  refine Ev.bind (a := (toI w, true)) (f := fun _ (b : List Int × Bool) => some (b.1, b.2)) ?_ Ev_some
  unfold impl_tree_wordOfP.f
  have h1 := isRight_ev (trip (reach 3 w).1 (reach 3 w).2)
  rw [isR_true ⟨_, _, b2, rfl⟩] at h1
  refine Ev.bind h1 (Ev_true rfl (Ev.bind (pairOf_ev b2) ?_))
  simp only
  rw [price2_eq b2.1 (by omega)]
  simp only [Option.bind_some]
  have h := wordOfP_ev w hd hs [] (by simp; omega)
  simpa using h
theorem foWordP_trip {w : List Nat} (hd : Digs w) (hs : sumP 3 w ≤ 1000000000) : Ev (fun j => spec_PriceWord.f j (trip (reach 3 w).1 (reach 3 w).2)) (toI w, true) := by
  obtain ⟨b1, b2, b3⟩ := sum_small hs
  unfold spec_PriceWord.f
  have h1 := riGood_ev (trip (reach 3 w).1 (reach 3 w).2)
  rw [isR_true ⟨_, _, b2, rfl⟩] at h1
  refine Ev.bind h1 (Ev_true rfl (Ev.bind (back_trip b2) ?_))
  have h := foWordOfP_ev w hd hs [] (by simp; omega)
  simpa using h
theorem wordP_no {t : List Int} (h : ¬ GoodT t) : Ev (fun j => impl_PriceWord.f j t) (([] : List Int), false) := by
  unfold impl_PriceWord.f impl_price.f
  simp only [Option.bind_some]
  refine Ev.bind (a := (([] : List Int), false)) (f := fun _ (b : List Int × Bool) => some (b.1, b.2)) ?_ Ev_some
  unfold impl_tree_wordOfP.f
  have h1 := isRight_ev t
  rw [isR_false h] at h1
  exact Ev.bind h1 (Ev_false (by simp) Ev_some)
theorem foWordP_no {t : List Int} (h : ¬ GoodT t) : Ev (fun j => spec_PriceWord.f j t) (([] : List Int), false) := by
  unfold spec_PriceWord.f
  have h1 := riGood_ev t
  rw [isR_false h] at h1
  exact Ev.bind h1 (Ev_false (by simp) Ev_some)
end Go.Proofs.Ytnfbkakblnppaaa.Q
