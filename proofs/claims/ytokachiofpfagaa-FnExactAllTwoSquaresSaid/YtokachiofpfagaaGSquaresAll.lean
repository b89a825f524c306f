/- impl.squares with the visitor of impl.allSquares: the call comes to what the plain function comes to. -/
import Derived.Test.YtokachiofpfagaaGSquares
namespace Go.Proofs.Ytokachiofpfagaa.G
open Go.RowKit Go.Proofs.YtokachiofpfagaaW.PrintWords Go.Proofs.YtokachiofpfagaaW.PrintLast Go.Proofs.YtokachiofpfagaaW.PrintMore
set_option linter.unusedVariables false
attribute [local go_sem] max2_int min2_int max_two min_two max_three min_three max_four min_four

set_option maxHeartbeats 8000000 in
set_option maxRecDepth 100000 in
theorem squares_all {RF : Nat → Int → Option Int}
    (hroot : ∀ k n r W, RF k n = some r → Calls Try.prog 117 #[.int .i64 n] W fun e W' => e = .returned (.int .i64 r) ∧ Drawn0 W W')
    {B : Nat} {σ : Type} {w0 : World} {Inv : σ → World → (Nat → Prop) → Prop} {step : σ → List Int → Option (σ × Bool)} (V : Vis 111 B w0 Inv step) (k : Nat) :
    ∀ (v : Value) (xs : List Int) (parts most n : Int) (s : σ) (q : σ × Bool) (ok : Nat → Prop) (W : World) (H : sqF RF step k xs parts most n s = some q) (hxs : xs.length ≤ 100) (hb : Below w0.heap.size w0 W)
      (ho : W.ownsRow w0.heap.size 3 1 v xs.length (nums .i64 xs)) (hi : Inv s W ok) (hok : ∀ b, v.ownBlock = some b → ¬ ok b) (hok0 : ∀ b, ok b → w0.heap.size ≤ b),
      Calls Try.prog 106 #[v, .int .i64 parts, .int .i64 most, .int .i64 n, .func (.func 111) #[] #[.pointer (some ⟨B, 0, none⟩)]] W
        fun e W' => e = .returned (.bool q.2) ∧ SqPost w0 Inv ok v xs W q.1 W' := by
  induction k using Nat.strongRecOn with
  | _ k ih =>
  intro v xs parts most n s q ok W H hxs hb ho hi hok hok0
  cases k with
  | zero => exact absurd H (by simp [sqF])
  | succ k =>
  simp only [sqF] at H
  by_cases hp : parts = 0
  · rw [if_pos hp] at H
    have hp0 : (parts == 0) = true := beq_iff_eq.mpr hp
    clear hp
    by_cases hn : n = 0
    · rw [if_pos hn] at H
      have hn0 : (n == 0) = true := beq_iff_eq.mpr hn
      clear hn
      have hlt := own_lt ho
      obtain ⟨A, c, rfl, hle, hC⟩ := Kd.R_reads (R_of_own ho)
      have C1 := Aside0.mk (clone_any A c xs W hC (by omega))
      have V2 := Aside0.mk (fun (W1 : World) (u : Value) (hR : Kd.R (Kd.int .i64) 3 W1 W.heap.size (fun _ => True) u xs) (hB : Below W.heap.size W W1) =>
        V.call s xs q W1 (fun k => ok k ∧ k < W.heap.size) u H (V.move _ _ _ _ (V.bound _ _ _ hi) (fun k hk => hB.block k hk.2)) (below_then hb hb.size hB) (fun k hk => hok0 k hk.1)
          (Kd.R_mono (Kd.R_lower (Kd.R_bound hR) hb.size) (fun k hk h2 => by have := hk.2.1; omega)))
      have OB := Aside0.mk (show ∀ W2 : World, (∀ k, k < W.heap.size → ¬ ok k → W2.heap[k]? = W.heap[k]?) → W2.ownsRow w0.heap.size 3 1 (.slice A xs.length c) xs.length (nums .i64 xs) from
        fun W2 h => own_move ho (fun k hk => h k (hlt k hk) (hok k hk)))
      clear hC hle hlt ho hi H hok
      go_enter Try.func106, Try.ntmps106
      go_wp2_with fail
      refine C1.out.mono ?_
      rintro e W1 ⟨u, rfl, hR, hB⟩
      have VC := V2.out W1 u hR hB
      have hB := Aside0.mk hB
      have hR := Aside0.mk hR
      go_wp2_with fail
      refine VC.mono ?_
      rintro e W2 ⟨rfl, hb2, hk2, hi2⟩
      have X := Aside0.mk (show SqPost w0 Inv ok (.slice A xs.length c) xs W q.1 W2 from by
        refine ⟨hb2, OB.out W2 (fun k hk hn => ?_), V.mono _ _ _ _ hi2 (fun k hk => ?_), ?_⟩
        · exact (hk2.2 k (Nat.lt_of_lt_of_le hk hB.out.size) (fun h => hn h.1)).trans (hB.out.block k hk)
        · rcases hk with hk | hk | hk
          · exact .inl hk.1
          · exact .inr (Nat.le_trans hB.out.size hk)
          · exact .inr (Kd.R_base hR.out k hk)
        · exact ((Kept.of_below hB.out _).then_ hk2 (fun k hk => .inl (.inl hk.1))))
      clear hb2 hk2 hi2
      go_wp2
      go_ret
      exact ⟨by simp, X.out⟩
    · rw [if_neg hn] at H
      have hn0 : (n == 0) = false := beq_eq_false_iff_ne.mpr hn
      clear hn
      obtain rfl := Option.some.inj H
      have X := Aside0.mk (SqPost.start V hb ho hi)
      clear H hb ho hi hok
      go_enter Try.func106, Try.ntmps106
      go_wp2
      go_ret
      exact ⟨rfl, X.out⟩
  · rw [if_neg hp] at H
    have hp0 : (parts == 0) = false := beq_eq_false_iff_ne.mpr hp
    clear hp
    obtain ⟨r, hr, H⟩ := Option.bind_eq_some_iff.mp H
    obtain ⟨j, hj⟩ : ∃ j : Int, mn most r = j := ⟨_, rfl⟩
    rw [hj] at H
    have hj_ : (if r < most then r else most) = j := hj
    clear hj
    have CR := Aside0.mk (fun W => hroot k n r W hr)
    clear hr
    have HO := Aside0.mk (show ∀ b, v.ownBlock = some b → ¬ ok b ∧ b < W.heap.size from fun b h => ⟨hok b h, own_lt ho b h⟩)
    have X := Aside0.mk (SqPost.start V hb ho hi)
    have H' := Aside0.mk H
    have HX := Aside0.mk hxs
    have HW0 := Aside0.mk hb.size
    have HK0 := Aside0.mk hok0
    clear H hb ho hi hok hxs hok0
    have IH := Aside0.mk ih
    clear ih
    go_enter Try.func106, Try.ntmps106
    go_wp2_with (go_at_call 117; refine (CR.out _).mono ?_; rintro e W1 ⟨rfl, ⟨m, rfl⟩⟩)
    replace X := Aside0.mk (X.out.drewN V m)
    go_loopg [11] k (fun kq v11 W' => ∃ (a : Int) (s1 : σ), v11 = .int .i64 a ∧ Aside0 (sqL RF step kq xs parts n a s1 = some q) ∧ Aside0 (kq ≤ k) ∧ Aside0 (SqPost w0 Inv ok v xs W s1 W'))
    case atStart => exact ⟨j, s, rfl, H', ⟨Nat.le_refl _⟩, X⟩
    case round =>
      clear H' X hj_
      obtain ⟨a, s1, rfl, HA, HK, X⟩ := hrel
      cases gk with
      | zero => exact absurd HA.out (by simp [sqL])
      | succ k1 =>
        have H := HA.out
        clear HA
        simp only [sqL] at H
        by_cases c1 : 0 ≤ a
        · rw [if_pos c1] at H
          have d1 : decide (0 ≤ a) = true := decide_eq_true c1
          clear c1
          by_cases c2 : n ≤ wrap64 (wrap64 (parts * a) * a)
          · rw [if_pos c2] at H
            have d2 : decide (n ≤ wrap64 (wrap64 (parts * a) * a)) = true := decide_eq_true c2
            clear c2
            by_cases c3 : xs.length < 100
            · rw [if_pos c3] at H
              obtain ⟨q1, hq1, H⟩ := Option.bind_eq_some_iff.mp H
              have REC := Aside0.mk (IH.out k1 (by have := HK.out; omega))
              have AP := Aside0.mk (fun (v1 : Value) (w1 : World) (hown : w1.ownsRow w0.heap.size 3 1 v1 (xs.length + 1) (nums .i64 (xs ++ [a]))) (hat : v1.ownBlock = v.ownBlock ∨ ∃ b, v1.ownBlock = some b ∧ wr.heap.size ≤ b) (hg : wr.grownBy w1 v.ownBlock) =>
                REC.out v1 (xs ++ [a]) _ _ _ s1 q1 (fun k => (ok k ∨ W.heap.size ≤ k) ∧ k < wr.heap.size) w1 hq1 (by simp; omega) (X.out.ahead V HO.out hg hat).1 (by simpa using hown) (X.out.ahead V HO.out hg hat).2.1 (X.out.ahead V HO.out hg hat).2.2 (fun b hb => hb.1.elim (HK0.out b) (fun h => Nat.le_trans HW0.out h)))
              clear hq1 REC
              have HXl := Aside0.mk c3
              clear c3
              go_wp2_with (at_builtin; refine append_keep w0.heap.size rfl _ _ 22 3 .i64 8 rfl Try.underlying22 cinfo (by decide) v xs a rfl rfl X.out.own X.out.below.size (by have := HXl.out; omega) ?_)
              intro v1 w1 hown hv hg hat hback
              have CC := AP.out v1 w1 hown hat hg
              have AF := Aside0.mk (fun (s' : σ) (W2 : World) => X.out.after (s' := s') (W2 := W2) (a := a) V HO.out hg hat hv (fun W' h he => hback W' (by simpa using h) he))
              clear hown hv hg hat hback AP
              go_wp2_with fail
              refine CC.mono ?_
              rintro e W2 ⟨rfl, hP⟩
              have X2 := Aside0.mk (AF.out _ _ hP)
              clear hP AF X CC
              obtain ⟨s2, b2⟩ := q1
              cases b2 with
              | true =>
                simp only [if_true] at H
                obtain rfl := Option.some.inj H
                clear H
                go_wp2
                go_ret
                exact ⟨rfl, X2.out⟩
              | false =>
                have H2 := Aside0.mk (show sqL RF step k1 xs parts n (wrap64 (a - 1)) s2 = some q from by simpa using H)
                clear H
                go_wp2
                go_roundg k1
                case measure => have := HK.out; omega
                case rel => exact ⟨wrap64 (a - 1), s2, rfl, H2, ⟨by have := HK.out; omega⟩, X2⟩
            · rw [if_neg c3] at H
              exact absurd H (by simp)
          · rw [if_neg c2] at H
            have d2 : decide (n ≤ wrap64 (wrap64 (parts * a) * a)) = false := decide_eq_false c2
            clear c2
            obtain rfl := Option.some.inj H
            clear H
            go_wp2
            go_ret
            exact ⟨rfl, X.out⟩
        · rw [if_neg c1] at H
          have d1 : decide (0 ≤ a) = false := decide_eq_false c1
          clear c1
          obtain rfl := Option.some.inj H
          clear H
          go_wp2
          go_ret
          exact ⟨rfl, X.out⟩
end Go.Proofs.Ytokachiofpfagaa.G
