/- The way down of a quad, as the reference tells it; the answers of both programs. -/
import Derived.Test.YtnaginnhccldhaaBx2
import Derived.Test.YtnaginnhccldhaaBx3
import Derived.Test.YtnaginnhccldhaaBx5
import Derived.Test.YtnaginnhccldhaaBx6
import Derived.Test.YtnaginnhccldhaaBx7
import Derived.Test.YtnaginnhccldhaaBx15
import Derived.Test.YtnaginnhccldhaaBx16
import Derived.Test.YtnaginnhccldhaaBQQuadW
namespace Go.Proofs.Ytnaginnhccldhaa.Q
open Go.RowKit Go.Proofs.Ytnaginnhccldhaa.P Go.Proofs.YtnaginnhccldhaaW.PrintWords Go.Proofs.YtnaginnhccldhaaW.PrintLast Go.Proofs.Ytnaginnhccldhaa.G
def bestN (q : List Int) : Nat → Nat
  | 0 => 0
  | i + 1 => if rd q (i : Int) > rd q ((bestN q i : Nat) : Int) then i else bestN q i
theorem bestN_le (q : List Int) : ∀ i, bestN q i ≤ i
  | 0 => Nat.le_refl 0
  | i + 1 => by
    have := bestN_le q i
    unfold bestN
    split <;> omega
theorem bestN_best {q : List Int} (h : Quad4 q) : bestN q 4 = best q := by
  obtain ⟨a, b, c, d, rfl, _, _⟩ := h
  show (if rd [a, b, c, d] 3 > rd [a, b, c, d] ((bestN [a, b, c, d] 3 : Nat) : Int) then 3 else bestN [a, b, c, d] 3) = (if b ≤ a ∧ c ≤ a ∧ d ≤ a then 0 else if c ≤ b ∧ d ≤ b then 1 else if d ≤ c then 2 else 3)
  have e1 : bestN [a, b, c, d] 1 = 0 := by
    show (if rd [a, b, c, d] 0 > rd [a, b, c, d] 0 then 0 else 0) = 0
    split <;> rfl
  have e2 : bestN [a, b, c, d] 2 = if b > a then 1 else 0 := by
    show (if rd [a, b, c, d] 1 > rd [a, b, c, d] ((bestN [a, b, c, d] 1 : Nat) : Int) then 1 else bestN [a, b, c, d] 1) = _
    rw [e1]; rfl
  have e3 : bestN [a, b, c, d] 3 = if b > a then (if c > b then 2 else 1) else (if c > a then 2 else 0) := by
    show (if rd [a, b, c, d] 2 > rd [a, b, c, d] ((bestN [a, b, c, d] 2 : Nat) : Int) then 2 else bestN [a, b, c, d] 2) = _
    rw [e2]
    by_cases h1 : b > a
    · rw [if_pos h1, if_pos h1]; rfl
    · rw [if_neg h1, if_neg h1]; rfl
  rw [e3]
  by_cases h1 : b > a
  · rw [if_pos h1]
    by_cases h2 : c > b
    · rw [if_pos h2]
      show (if d > c then 3 else 2) = _
      repeat' split
      all_goals omega
    · rw [if_neg h2]
      show (if d > b then 3 else 1) = _
      repeat' split
      all_goals omega
  · rw [if_neg h1]
    by_cases h2 : c > a
    · rw [if_pos h2]
      show (if d > c then 3 else 2) = _
      repeat' split
      all_goals omega
    · rw [if_neg h2]
      show (if d > a then 3 else 0) = _
      repeat' split
      all_goals omega
/-- The index of the swap down, or -1. -/
def dn (q : List Int) : Int := if rootB q = true then -1 else ((best q : Nat) : Int)
theorem apDown_l0 {q : List Int} (h : Quad4 q) : ∀ (d i : Nat), i + d = 4 → Ev (fun k => spec_apDown.l0 k q ((bestN q i : Nat) : Int) q 4 (i : Int)) (dn q)
  | 0, i, hi => by
    obtain rfl : i = 4 := by omega
    have hl := quad_len h
    refine Ev_succ ?_
    simp only [spec_apDown.l0]
    refine Ev_false (by omega) ?_
    rw [bestN_best h, apSwap_eq h (best_lt q)]
    simp only [Option.bind_some]
    have hs := swap_len h (best q)
    have hb := best_lt q
    refine Ev_true (by omega) (Ev_true (by omega) (Ev_true (by omega) ?_))
    unfold dn
    by_cases hr : rootB q = true
    · rw [if_pos hr]
      exact Ev_true ((root_iff h).1 hr _ hb) Ev_some
    · rw [if_neg hr]
      have := not_root h (by simpa using hr)
      exact Ev_false (by omega) Ev_some
  | d + 1, i, hi => by
    have hl := quad_len h
    have hb := bestN_le q i
    refine Ev_succ ?_
    simp only [spec_apDown.l0]
    refine Ev_true (by omega) (Ev_true (by omega) (Ev_true (by omega) (Ev_true (by omega) (Ev_true (by omega) ?_))))
    rw [w64 (x := (i : Int) + 1) (by omega) (by omega)]
    have ih := apDown_l0 h d (i + 1) (by omega)
    by_cases hc : rd q (i : Int) > rd q ((bestN q i : Nat) : Int)
    · have e : bestN q (i + 1) = i := by unfold bestN; rw [if_pos hc]
      rw [e] at ih
      exact Ev_true hc ih
    · have e : bestN q (i + 1) = bestN q i := by rw [bestN, if_neg hc]
      rw [e] at ih
      exact Ev_false hc ih
theorem apDown_ev {q : List Int} (h : Quad4 q) : Ev (fun k => spec_apDown.f k q) (dn q) := by
  unfold spec_apDown.f
  rw [quad_len h]
  exact apDown_l0 h 4 0 rfl
theorem apPath_l0 : ∀ (d : Nat) (q : List Int) (P : List (List Int)), Quad4 q → P.length + d = 201 → Ev (fun k => spec_apPath.l0 k q P (dn q)) (P ++ (pathQ d q).tail)
  | 0, q, P, h, hP => by
    have e : P ++ (pathQ 0 q).tail = P := by simp [pathQ]
    rw [e]
    refine Ev_succ ?_
    simp only [spec_apPath.l0]
    have stop : Ev (fun k => spec_apPath.j1 k q P (dn q) false) P := by
      refine Ev_succ ?_
      simp only [spec_apPath.j1]
      exact Ev_false (by simp) Ev_some
    by_cases hc : dn q ≥ 0
    · rw [show decide ((P.length : Int) ≤ 200) = false from decide_eq_false (by omega)]
      exact Ev_true hc stop
    · exact Ev_false hc stop
  | d + 1, q, P, h, hP => by
    refine Ev_succ ?_
    simp only [spec_apPath.l0]
    by_cases hr : rootB q = true
    · have e : P ++ (pathQ (d + 1) q).tail = P := by rw [pathQ, if_pos hr]; simp
      have ed : dn q = -1 := by unfold dn; rw [if_pos hr]
      rw [e, ed]
      refine Ev_false (by omega) (Ev_succ ?_)
      simp only [spec_apPath.j1]
      exact Ev_false (by simp) Ev_some
    · have hd := down_quad h (by simpa using hr)
      obtain ⟨t, ht⟩ := path_head d (downQ q)
      have e : P ++ (pathQ (d + 1) q).tail = (P ++ [downQ q]) ++ (pathQ d (downQ q)).tail := by
        rw [pathQ, if_neg hr, List.tail_cons, ht, List.tail_cons, List.append_assoc, List.singleton_append]
      have ed : dn q = ((best q : Nat) : Int) := by unfold dn; rw [if_neg hr]
      rw [e, ed, show decide ((P.length : Int) ≤ 200) = true from decide_eq_true (by omega)]
      refine Ev_true (by omega) (Ev_succ ?_)
      simp only [spec_apPath.j1]
      rw [apSwap_eq h (best_lt q)]
      simp only [Option.bind_some]
      refine Ev_true (by first | rfl | trivial) (Ev_true (by omega) (Ev.bind (apDown_ev hd.1) ?_))
      exact apPath_l0 d (downQ q) (P ++ [downQ q]) hd.1 (by rw [List.length_append, List.length_singleton]; omega)
theorem apPath_ev {q : List Int} (h : Quad4 q) : Ev (fun k => spec_apPath.f k q) (pathQ 200 q) := by
  unfold spec_apPath.f spec_l1Own.f
  have hl := quad_len h
  simp only [Option.bind_some, List.nil_append, List.length_nil]
  rw [if_pos (by omega)]
  simp only [Option.bind_some]
  obtain ⟨t, ht⟩ := path_head 200 q
  have := apPath_l0 200 q [q] h rfl
  rw [ht, List.tail_cons, List.singleton_append, ← ht] at this
  exact Ev.bind (apDown_ev h) this
/-! ### The answers -/
def okQ (q : List Int) : Bool := decide ((pathQ 200 q).length ≤ 200)
def pathR (q : List Int) : List (List Int) × Bool := if okQ q = true then (pathQ 200 q, true) else ([], false)
def wordR (q : List Int) : List Int × Bool := if okQ q = true then (wordQ 200 q, true) else ([], false)
def rootR (q : List Int) : List Int × Bool := if okQ q = true then (srt (rootP 200 q), true) else ([], false)
def swapD (q : List Int) : Int × Bool := if rootB q = true then (0, false) else (((best q : Nat) : Int), true)
theorem okQ_true {q : List Int} : okQ q = true ↔ (pathQ 200 q).length ≤ 200 := by unfold okQ; rw [decide_eq_true_eq]
theorem downPath_impl {q : List Int} (h : Quad4 q) : Ev (fun k => impl_DownPath.f k q) (pathR q) := by
  have hq := isQuad_ev q
  rw [isQ_true h] at hq
  unfold impl_DownPath.f
  refine Ev.bind hq (Ev_true rfl ?_)
  have hd := down_ev h
  unfold pathR
  by_cases hc : okQ q = true
  · have hc' := okQ_true.1 hc
    rw [if_neg (by omega)] at hd
    rw [if_pos hc]
    exact Ev.bind (f := fun _ (t : List (List Int) × List Int × Bool) => some (t.1, t.2.2)) hd Ev_some
  · have hc' : ¬ (pathQ 200 q).length ≤ 200 := fun h_ => hc (okQ_true.2 h_)
    rw [if_pos (by omega)] at hd
    rw [if_neg hc]
    exact Ev.bind (f := fun _ (t : List (List Int) × List Int × Bool) => some (t.1, t.2.2)) hd Ev_some
theorem downWord_impl {q : List Int} (h : Quad4 q) : Ev (fun k => impl_DownWord.f k q) (wordR q) := by
  have hq := isQuad_ev q
  rw [isQ_true h] at hq
  unfold impl_DownWord.f
  refine Ev.bind hq (Ev_true rfl ?_)
  have hd := down_ev h
  unfold wordR
  by_cases hc : okQ q = true
  · have hc' := okQ_true.1 hc
    rw [if_neg (by omega)] at hd
    rw [if_pos hc]
    exact Ev.bind (f := fun _ (t : List (List Int) × List Int × Bool) => some (t.2.1, t.2.2)) hd Ev_some
  · have hc' : ¬ (pathQ 200 q).length ≤ 200 := fun h_ => hc (okQ_true.2 h_)
    rw [if_pos (by omega)] at hd
    rw [if_neg hc]
    exact Ev.bind (f := fun _ (t : List (List Int) × List Int × Bool) => some (t.2.1, t.2.2)) hd Ev_some
theorem downPath_spec {q : List Int} (h : Quad4 q) : Ev (fun k => spec_DownPath.f k q) (pathR q) := by
  have hq := apGood_ev q
  rw [isQ_true h] at hq
  unfold spec_DownPath.f
  refine Ev.bind hq (Ev_true rfl (Ev.bind (apPath_ev h) ?_))
  unfold pathR
  by_cases hc : okQ q = true
  · have hc' := okQ_true.1 hc
    rw [if_pos hc]
    exact Ev_false (by omega) Ev_some
  · have hc' : ¬ (pathQ 200 q).length ≤ 200 := fun h_ => hc (okQ_true.2 h_)
    rw [if_neg hc]
    exact Ev_true (by omega) Ev_some
theorem no_quad {q : List Int} (h : ¬ Quad4 q) : isQ q = false := isQ_false h
theorem downPath_impl_no {q : List Int} (h : ¬ Quad4 q) : Ev (fun k => impl_DownPath.f k q) ([], false) := by
  have hq := isQuad_ev q
  rw [isQ_false h] at hq
  unfold impl_DownPath.f
  exact Ev.bind hq (Ev_false (by simp) Ev_some)
theorem downWord_impl_no {q : List Int} (h : ¬ Quad4 q) : Ev (fun k => impl_DownWord.f k q) ([], false) := by
  have hq := isQuad_ev q
  rw [isQ_false h] at hq
  unfold impl_DownWord.f
  exact Ev.bind hq (Ev_false (by simp) Ev_some)
theorem downPath_spec_no {q : List Int} (h : ¬ Quad4 q) : Ev (fun k => spec_DownPath.f k q) ([], false) := by
  have hq := apGood_ev q
  rw [isQ_false h] at hq
  unfold spec_DownPath.f
  exact Ev.bind hq (Ev_false (by simp) Ev_some)
theorem rd2 {l : List (List Int)} {i : Nat} (h : i < l.length) : rd_L2 l (i : Int) = l[i] := by
  simp [rd_L2, List.getD_eq_getElem?_getD, List.getElem?_eq_getElem h]
theorem downWord_l0 {L : List (List Int)} (hn : L.length ≤ 1000) (hL : ∀ x ∈ L, Quad4 x) : ∀ (d i : Nat) (o : List Int), i + d = L.length → o.length ≤ i → Ev (fun k => spec_DownWord.l0 k o L (L.length : Int) (i : Int)) (o ++ (L.drop i).map dn, true)
  | 0, i, o, hi, ho => by
    refine Ev_succ ?_
    simp only [spec_DownWord.l0]
    rw [List.drop_of_length_le (by omega), List.map_nil, List.append_nil]
    exact Ev_false (by omega) Ev_some
  | d + 1, i, o, hi, ho => by
    have h0 : i < L.length := by omega
    refine Ev_succ ?_
    simp only [spec_DownWord.l0]
    refine Ev_true (by omega) (Ev_true (by omega) (Ev_true (by omega) ?_))
    rw [rd2 h0, w64 (x := (i : Int) + 1) (by omega) (by omega)]
    refine Ev.bind (apDown_ev (hL _ (List.getElem_mem h0))) (Ev_true (by omega) ?_)
    have ih := downWord_l0 hn hL d (i + 1) (o ++ [dn L[i]]) (by omega) (by rw [List.length_append, List.length_singleton]; omega)
    rw [List.drop_eq_getElem_cons h0, List.map_cons]
    rw [List.append_assoc, List.singleton_append] at ih
    exact ih
theorem word_dn {q : List Int} (h : Quad4 q) : ((pathQ 200 q).take ((pathQ 200 q).length - 1)).map dn = wordQ 200 q := by
  have hl := (path_len 200 q).1
  apply List.ext_getElem
  · simp; omega
  · intro i h1 h2
    have hs := path_step h i (by omega) h2
    simp only [List.getElem_map, List.getElem_take]
    rw [hs.2.1]
    unfold dn
    rw [hs.2.2, if_neg (by simp)]
theorem downWord_spec {q : List Int} (h : Quad4 q) : Ev (fun k => spec_DownWord.f k q) (wordR q) := by
  unfold spec_DownWord.f
  refine Ev.bind (downPath_spec h) ?_
  unfold pathR wordR
  by_cases hc : okQ q = true
  · have hc' := okQ_true.1 hc
    obtain ⟨t, ht⟩ := path_head 200 q
    have hl : 0 < (pathQ 200 q).length := by rw [ht]; simp
    rw [if_pos hc, if_pos hc]
    refine Ev_true rfl ?_
    simp only []
    rw [w64 (x := ((pathQ 200 q).length : Int) - 1) (by omega) (by omega)]
    refine Ev_true (by omega) (Ev_true (by omega) ?_)
    simp only [Option.bind_some]
    rw [show (((pathQ 200 q).length : Int) - 1).toNat = (pathQ 200 q).length - 1 by omega]
    have hw := downWord_l0 (L := (pathQ 200 q).take ((pathQ 200 q).length - 1)) (by rw [List.length_take]; omega) (fun x hx => path_all h x (List.mem_of_mem_take hx)) _ 0 [] (by rw [Nat.zero_add]) (by simp)
    rw [List.drop_zero, List.nil_append, word_dn h] at hw
    exact hw
  · rw [if_neg hc, if_neg hc]
    exact Ev_false (by simp) Ev_some
theorem downWord_spec_no {q : List Int} (h : ¬ Quad4 q) : Ev (fun k => spec_DownWord.f k q) ([], false) := by
  unfold spec_DownWord.f
  exact Ev.bind (downPath_spec_no h) (Ev_false (by simp) Ev_some)
theorem downSwap_impl {q : List Int} (h : Quad4 q) : Ev (fun k => impl_DownSwap.f k q) (swapD q) := by
  have hq := isQuad_ev q
  rw [isQ_true h] at hq
  unfold impl_DownSwap.f swapD
  refine Ev.bind hq (Ev_true rfl (Ev.bind (isRoot_ev h) ?_))
  by_cases hr : rootB q = true
  · rw [if_pos hr]
    exact Ev_true hr Ev_some
  · rw [if_neg hr]
    exact Ev_false hr (Ev.bind (greatest_ev h) Ev_some)
theorem downSwap_spec {q : List Int} (h : Quad4 q) : Ev (fun k => spec_DownSwap.f k q) (swapD q) := by
  have hq := apGood_ev q
  rw [isQ_true h] at hq
  unfold spec_DownSwap.f swapD
  refine Ev.bind hq (Ev_true rfl (Ev.bind (apDown_ev h) ?_))
  by_cases hr : rootB q = true
  · rw [if_pos hr]
    exact Ev_true (by unfold dn; rw [if_pos hr]; omega) Ev_some
  · rw [if_neg hr]
    have e : dn q = ((best q : Nat) : Int) := by unfold dn; rw [if_neg hr]
    refine Ev_false (by rw [e]; omega) (Ev.bind (apDown_ev h) ?_)
    rw [e]
    exact Ev_some
theorem downSwap_impl_no {q : List Int} (h : ¬ Quad4 q) : Ev (fun k => impl_DownSwap.f k q) (0, false) := by
  have hq := isQuad_ev q
  rw [isQ_false h] at hq
  unfold impl_DownSwap.f
  exact Ev.bind hq (Ev_false (by simp) Ev_some)
theorem downSwap_spec_no {q : List Int} (h : ¬ Quad4 q) : Ev (fun k => spec_DownSwap.f k q) (0, false) := by
  have hq := apGood_ev q
  rw [isQ_false h] at hq
  unfold spec_DownSwap.f
  exact Ev.bind hq (Ev_false (by simp) Ev_some)
theorem isRoot_impl {q : List Int} (h : Quad4 q) : Ev (fun k => impl_IsRoot.f k q) (rootB q, true) := by
  have hq := isQuad_ev q
  rw [isQ_true h] at hq
  unfold impl_IsRoot.f
  exact Ev.bind hq (Ev_true rfl (Ev.bind (isRoot_ev h) Ev_some))
theorem isRoot_spec {q : List Int} (h : Quad4 q) : Ev (fun k => spec_IsRoot.f k q) (rootB q, true) := by
  have hq := apGood_ev q
  rw [isQ_true h] at hq
  unfold spec_IsRoot.f
  refine Ev.bind hq (Ev_true rfl (Ev.bind (apDown_ev h) ?_))
  have e : decide (dn q < 0) = rootB q := by
    unfold dn
    by_cases hr : rootB q = true
    · rw [if_pos hr, hr]; rfl
    · rw [if_neg hr, show rootB q = false by simpa using hr]; exact decide_eq_false (by omega)
  rw [e]
  exact Ev_some
theorem isRoot_impl_no {q : List Int} (h : ¬ Quad4 q) : Ev (fun k => impl_IsRoot.f k q) (false, false) := by
  have hq := isQuad_ev q
  rw [isQ_false h] at hq
  unfold impl_IsRoot.f
  exact Ev.bind hq (Ev_false (by simp) Ev_some)
theorem isRoot_spec_no {q : List Int} (h : ¬ Quad4 q) : Ev (fun k => spec_IsRoot.f k q) (false, false) := by
  have hq := apGood_ev q
  rw [isQ_false h] at hq
  unfold spec_IsRoot.f
  exact Ev.bind hq (Ev_false (by simp) Ev_some)
/-! ### Sorted numbers -/
def insS (x : Int) : List Int → List Int
  | [] => [x]
  | y :: t => if y ≤ x then y :: insS x t else x :: y :: t
theorem insS_perm (x : Int) : ∀ l, (insS x l).Perm (x :: l)
  | [] => List.Perm.refl _
  | y :: t => by
    unfold insS
    split
    · exact ((insS_perm x t).cons y).trans (List.Perm.swap x y t)
    · exact List.Perm.refl _
theorem insS_sorted (x : Int) : ∀ l : List Int, l.Pairwise (· ≤ ·) → (insS x l).Pairwise (· ≤ ·)
  | [], _ => by simp [insS]
  | y :: t, h => by
    obtain ⟨h1, h2⟩ := List.pairwise_cons.1 h
    unfold insS
    split
    · refine List.pairwise_cons.2 ⟨fun z hz => ?_, insS_sorted x t h2⟩
      rcases List.mem_cons.1 ((insS_perm x t).subset hz) with rfl | hz
      · assumption
      · exact h1 z hz
    · refine List.pairwise_cons.2 ⟨fun z hz => ?_, h⟩
      rcases List.mem_cons.1 hz with rfl | hz
      · omega
      · have := h1 z hz; omega
theorem insS_len (x : Int) (l : List Int) : (insS x l).length = l.length + 1 := by
  rw [(insS_perm x l).length_eq, List.length_cons]
theorem fold_ins : ∀ (l o : List Int), o.Pairwise (· ≤ ·) → (l.foldl (fun o x => insS x o) o).Pairwise (· ≤ ·) ∧ (l.foldl (fun o x => insS x o) o).Perm (l ++ o)
  | [], o, h => ⟨h, List.Perm.refl _⟩
  | x :: l, o, h => by
    obtain ⟨h1, h2⟩ := fold_ins l (insS x o) (insS_sorted x o h)
    exact ⟨h1, h2.trans (((insS_perm x o).append_left l).trans List.perm_middle)⟩
theorem srt_perm (l : List Int) : (srt l).Perm l := List.mergeSort_perm _ _
theorem srt_sorted (l : List Int) : (srt l).Pairwise (· ≤ ·) := by
  have := List.pairwise_mergeSort (le := fun x y : Int => decide (x ≤ y)) (fun a b c h1 h2 => by simp only [decide_eq_true_eq] at *; omega) (fun a b => by simp only [Bool.or_eq_true, decide_eq_true_eq]; omega) l
  exact this.imp (fun h => by simpa using h)
theorem sorted_one {l m : List Int} (hl : l.Pairwise (· ≤ ·)) (hm : m.Pairwise (· ≤ ·)) (h : l.Perm m) : l = m :=
  List.Perm.eq_of_pairwise (le := fun a b : Int => a ≤ b) (fun a b _ _ h1 h2 => by omega) hl hm h
theorem fold_srt (l : List Int) : l.foldl (fun o x => insS x o) [] = srt l := by
  obtain ⟨h1, h2⟩ := fold_ins l [] List.Pairwise.nil
  rw [List.append_nil] at h2
  exact sorted_one h1 (srt_sorted l) (h2.trans (srt_perm l).symm)
theorem apSorted_l1 {L : List Int} {x n i : Int} {o : List Int} (ho : o.length ≤ 1000) {r : List Int} (hr : Ev (fun k => spec_apSorted.l0 k (insS x o) L n (wrap64 (i + 1))) r) : ∀ (d j : Nat), j + d = o.length → o.take j ++ insS x (o.drop j) = insS x o → Ev (fun k => spec_apSorted.l1 k o x (j : Int) L n i) r
  | d, j, hj, hi => by
    have stop : o.take j ++ [x] ++ o.drop j = insS x o → Ev (fun k => (spec_l1Own.f (o.take (j : Int).toNat)).bind fun t490 => (if t490.length < 17592186044416 then ((some (t490 ++ [x] : List Int)).bind fun y493 => ((some (o.drop (j : Int).toNat : List Int)).bind fun y496 => (if y493.length + y496.length < 17592186044416 then (spec_apSorted.l0 k (y493 ++ y496) L n (wrap64 (i + 1))) else (none)))) else (none))) r := by
      intro e
      unfold spec_l1Own.f
      rw [Int.toNat_natCast]
      simp only [Option.bind_some, List.nil_append, List.length_nil]
      rw [if_pos (by rw [List.length_take]; omega)]
      simp only [Option.bind_some]
      refine Ev_true (by rw [List.length_take]; omega) (Ev_true (by rw [List.length_append, List.length_take, List.length_drop, List.length_singleton]; omega) ?_)
      rw [e]
      exact hr
    cases d with
    | zero =>
      refine Ev_succ ?_
      simp only [spec_apSorted.l1]
      refine Ev_false (by omega) (Ev_true (by omega) (Ev_true (by omega) (stop ?_)))
      rw [← hi, List.drop_of_length_le (by omega)]
      simp [insS]
    | succ d =>
      have h0 : j < o.length := by omega
      refine Ev_succ ?_
      simp only [spec_apSorted.l1]
      refine Ev_true (by omega) (Ev_true (by omega) ?_)
      rw [rdn h0]
      by_cases hc : o[j] ≤ x
      · refine Ev_true hc ?_
        rw [w64 (x := (j : Int) + 1) (by omega) (by omega)]
        refine apSorted_l1 ho hr d (j + 1) (by omega) ?_
        rw [← hi, List.drop_eq_getElem_cons h0, insS, if_pos hc, List.take_succ_eq_append_getElem h0, List.append_assoc, List.singleton_append]
      · refine Ev_false hc (Ev_true (by omega) (stop ?_))
        rw [← hi, List.drop_eq_getElem_cons h0, insS, if_neg hc, List.append_assoc, List.singleton_append]
theorem apSorted_l0 {L : List Int} (hn : L.length ≤ 900) : ∀ (d i : Nat) (o : List Int), i + d = L.length → o.length ≤ i → Ev (fun k => spec_apSorted.l0 k o L (L.length : Int) (i : Int)) ((L.drop i).foldl (fun o x => insS x o) o)
  | 0, i, o, hi, ho => by
    refine Ev_succ ?_
    simp only [spec_apSorted.l0]
    rw [List.drop_of_length_le (by omega)]
    exact Ev_false (by omega) Ev_some
  | d + 1, i, o, hi, ho => by
    have h0 : i < L.length := by omega
    refine Ev_succ ?_
    simp only [spec_apSorted.l0]
    refine Ev_true (by omega) (Ev_true (by omega) (Ev_true (by omega) ?_))
    rw [rdn h0, List.drop_eq_getElem_cons h0, List.foldl_cons]
    have ih := apSorted_l0 hn d (i + 1) (insS L[i] o) (by omega) (by rw [insS_len]; omega)
    refine apSorted_l1 (by omega) ?_ o.length 0 (by omega) (by simp)
    rw [w64 (x := (i : Int) + 1) (by omega) (by omega)]
    exact ih
theorem apSorted_ev {L : List Int} (hn : L.length ≤ 900) : Ev (fun k => spec_apSorted.f k L) (srt L) := by
  unfold spec_apSorted.f
  have := apSorted_l0 hn L.length 0 [] (by omega) (by simp)
  rw [List.drop_zero, fold_srt] at this
  exact this
theorem rootQuad_impl {q : List Int} (h : Quad4 q) : Ev (fun k => impl_RootQuad.f k q) (rootR q) := by
  unfold impl_RootQuad.f
  refine Ev.bind (downPath_impl h) ?_
  unfold pathR rootR
  by_cases hc : okQ q = true
  · have hc' := okQ_true.1 hc
    obtain ⟨t, ht⟩ := path_head 200 q
    have hl : 0 < (pathQ 200 q).length := by rw [ht]; simp
    rw [if_pos hc, if_pos hc]
    refine Ev_true rfl ?_
    simp only []
    rw [w64 (x := ((pathQ 200 q).length : Int) - 1) (by omega) (by omega)]
    refine Ev_true (by omega) (Ev_true (by omega) ?_)
    rw [show ((pathQ 200 q).length : Int) - 1 = (((pathQ 200 q).length - 1 : Nat) : Int) by omega, rd2 (by omega), path_last]
    unfold srtF
    rw [if_pos (by rw [quad_len (root_quad h)]; omega)]
    exact Ev_some
  · rw [if_neg hc, if_neg hc]
    exact Ev_false (by simp) Ev_some
theorem rootQuad_spec {q : List Int} (h : Quad4 q) : Ev (fun k => spec_RootQuad.f k q) (rootR q) := by
  unfold spec_RootQuad.f
  refine Ev.bind (downPath_spec h) ?_
  unfold pathR rootR
  by_cases hc : okQ q = true
  · have hc' := okQ_true.1 hc
    obtain ⟨t, ht⟩ := path_head 200 q
    have hl : 0 < (pathQ 200 q).length := by rw [ht]; simp
    rw [if_pos hc, if_pos hc]
    refine Ev_true rfl ?_
    simp only []
    rw [w64 (x := ((pathQ 200 q).length : Int) - 1) (by omega) (by omega)]
    refine Ev_true (by omega) (Ev_true (by omega) ?_)
    rw [show ((pathQ 200 q).length : Int) - 1 = (((pathQ 200 q).length - 1 : Nat) : Int) by omega, rd2 (by omega), path_last]
    exact Ev.bind (apSorted_ev (by rw [quad_len (root_quad h)]; omega)) Ev_some
  · rw [if_neg hc, if_neg hc]
    exact Ev_false (by simp) Ev_some
theorem rootQuad_impl_no {q : List Int} (h : ¬ Quad4 q) : Ev (fun k => impl_RootQuad.f k q) ([], false) := by
  unfold impl_RootQuad.f
  exact Ev.bind (downPath_impl_no h) (Ev_false (by simp) Ev_some)
theorem rootQuad_spec_no {q : List Int} (h : ¬ Quad4 q) : Ev (fun k => spec_RootQuad.f k q) ([], false) := by
  unfold spec_RootQuad.f
  exact Ev.bind (downPath_spec_no h) (Ev_false (by simp) Ev_some)
/-! ### Sums and swaps, as the law asks them -/
theorem dSum_l0 {L : List Int} (hn : L.length ≤ 1000000000000) : ∀ (d i : Nat) (x : Int), i + d = L.length → Ev (fun k => laws_dSum.l0 k x L (L.length : Int) (i : Int)) ((L.drop i).foldl (fun s y => wrap64 (s + y)) x)
  | 0, i, x, hi => by
    refine Ev_succ ?_
    simp only [laws_dSum.l0]
    rw [List.drop_of_length_le (by omega)]
    exact Ev_false (by omega) Ev_some
  | d + 1, i, x, hi => by
    have h0 : i < L.length := by omega
    refine Ev_succ ?_
    simp only [laws_dSum.l0]
    rw [List.drop_eq_getElem_cons h0, List.foldl_cons, rdn h0, w64 (x := (i : Int) + 1) (by omega) (by omega)]
    exact Ev_true (by omega) (Ev_true (by omega) (Ev_true (by omega) (dSum_l0 hn d (i + 1) _ (by omega))))
theorem dSum_ev {q : List Int} (h : Quad4 q) : Ev (fun k => laws_dSum.f k q) (sum4 q) := by
  unfold laws_dSum.f
  have := dSum_l0 (L := q) (by rw [quad_len h]; omega) q.length 0 0 (by omega)
  rw [List.drop_zero] at this
  obtain ⟨a, b, c, d, rfl, ⟨ha, hb, hc, hd⟩, _⟩ := h
  rw [fold_sum ha hb hc hd] at this
  exact this
theorem swapAt_spec {q : List Int} (h : Quad4 q) {i : Nat} (hi : i < 4) : Ev (fun k => spec_SwapAt.f k q (i : Int)) (swapR q i) := by
  have hq := apGood_ev q
  rw [isQ_true h] at hq
  unfold spec_SwapAt.f
  refine Ev.bind hq (Ev_true rfl ?_)
  rw [in_eq]
  simp only [Option.bind_some]
  rw [show decide ((0 : Int) ≤ (i : Int) ∧ (i : Int) ≤ 3) = true from decide_eq_true (by omega)]
  refine Ev_succ ?_
  simp only [spec_SwapAt.j0]
  refine Ev_false (by simp) ?_
  rw [apSwap_eq h hi]
  simp only [Option.bind_some]
  have hs := apGood_ev (swapL q i)
  rw [(swap_in h hi).1] at hs
  refine Ev.bind hs ?_
  unfold swapR
  by_cases hc : InC (rd (swapL q i) (i : Int))
  · rw [if_pos hc]
    exact Ev_true (decide_eq_true hc) Ev_some
  · rw [if_neg hc]
    exact Ev_false (fun h_ => hc (of_decide_eq_true h_)) Ev_some
theorem swapAt_no {q : List Int} {i : Int} (h : ¬ Quad4 q ∨ ¬ (0 ≤ i ∧ i ≤ 3)) : Ev (fun k => impl_SwapAt.f k q i) ([], false) ∧ Ev (fun k => spec_SwapAt.f k q i) ([], false) := by
  constructor
  · unfold impl_SwapAt.f impl_isIndex.f
    have hq := isQuad_ev q
    rw [within_eq]
    simp only [Option.bind_some]
    refine Ev.bind hq ?_
    by_cases h1 : Quad4 q
    · rw [isQ_true h1]
      exact Ev_true rfl (Ev_false (fun h_ => (h.resolve_left (fun h2 => h2 h1)) (of_decide_eq_true h_)) Ev_some)
    · rw [isQ_false h1]
      exact Ev_false (by simp) Ev_some
  · unfold spec_SwapAt.f
    have hq := apGood_ev q
    rw [in_eq]
    simp only [Option.bind_some]
    have stop : Ev (fun k => spec_SwapAt.j0 k q i true) ([], false) := by
      refine Ev_succ ?_
      simp only [spec_SwapAt.j0]
      exact Ev_true (by first | rfl | trivial) Ev_some
    refine Ev.bind hq ?_
    by_cases h1 : Quad4 q
    · rw [isQ_true h1, show decide (0 ≤ i ∧ i ≤ 3) = false from decide_eq_false (h.resolve_left (fun h2 => h2 h1))]
      exact Ev_true rfl stop
    · rw [isQ_false h1]
      exact Ev_false (by simp) stop
end Go.Proofs.Ytnaginnhccldhaa.Q
