/- The law FnExactIsDesk. -/
import Derived.Test.YtmmopkbbiainmaaPx7
import Derived.Test.YtmmopkbbiainmaaQDesk
import Derived.Test.YtmmopkbbiainmaaQToInt
namespace Go.Proofs.Ytmmopkbbiainmaa.G
open Go.RowKit Go.Proofs.Ytmmopkbbiainmaa.P Go.Proofs.YtmmopkbbiainmaaW.PrintWords Go.Proofs.YtmmopkbbiainmaaW.PrintLast Go.Proofs.Ytmmopkbbiainmaa.Q
theorem szIntS_eq {l : List Int} {a : Int} (hl : l.length ≤ maxLen) (h0 : 0 ≤ a) (h1 : a ≤ 1048576) : laws_szIntS.f l a = some (if a < l.length then -1 else a - l.length) := by
  have : maxLen = 9223372036854775807 := rfl
  unfold laws_szIntS.f
  rw [w64 (by omega) (by omega)]
  by_cases h : a < l.length
  · rw [if_pos h, if_pos (by omega)]
  · rw [if_neg h, if_neg (by omega)]
theorem isDesk_pure (l m : List Int) (hl : l.length ≤ maxLen) (hm : m.length ≤ maxLen) : ∃ k, laws_FnExactIsDesk.f k l m = some true := by
  refine Ev_out (g := fun k => laws_FnExactIsDesk.f k l m) ?_
  unfold laws_FnExactIsDesk.f laws_szDesk.f
  rw [szIntS_eq hl (by omega) (by omega)]
  simp only [Option.bind_some]
  by_cases h : (1048576 : Int) < l.length
  · rw [if_pos h, if_pos (by omega)]
    simp only [Option.bind_some]
    exact Ev_true (by omega) Ev_some
  · rw [if_neg h, if_neg (by omega), szIntS_eq hm (by omega) (by omega)]
    simp only [Option.bind_some]
    by_cases h2 : (1048576 : Int) - l.length < m.length
    · rw [if_pos h2, if_pos (by omega)]
      simp only [Option.bind_some]
      exact Ev_true (by omega) Ev_some
    · rw [if_neg h2, if_neg (by omega)]
      simp only [Option.bind_some]
      refine Ev_false (by omega) ?_
      have ht : Ev (fun k => laws_toDesk.f k l m) (l, m) := by
        unfold laws_toDesk.f
        exact Ev.bind (toIntS_ev (by omega)) (Ev.bind (f := fun _ t => some (l, t)) (toIntS_ev (by omega)) Ev_some)
      obtain ⟨r, h3, h4⟩ := desk_ev (l := l) (m := m) (by omega) (by omega)
      refine Ev.bind ht (Ev.bind h3 (Ev.bind ht (Ev.bind h4 (Ev_false (by simp) (Ev.bind ht ?_)))))
      refine Ev.bind (a := true) ?_ (Ev_true rfl Ev_some)
      unfold laws_eqDesk.f
      exact Ev.bind (eqIntS_same (l := l) (by omega)) (Ev_true rfl (Ev.bind (eqIntS_same (l := m) (by omega)) (Ev_true rfl Ev_some)))
theorem FnExactIsDesk_walk (A0 : Option Addr) (c0 : Nat) (l0 : List Int) (A1 : Option Addr) (c1 : Nat) (l1 : List Int) (w : World) (hr0 : Kd.C (Kd.int .i64) w A0 l0.length l0) (hc0 : l0.length ≤ c0) (hm0 : l0.length ≤ maxLen) (_hw0 : ∀ x ∈ l0, (Lit.int .i64 x).wf = true)
    (hr1 : Kd.C (Kd.int .i64) w A1 l1.length l1) (hc1 : l1.length ≤ c1) (hm1 : l1.length ≤ maxLen) (_hw1 : ∀ x ∈ l1, (Lit.int .i64 x).wf = true) :
    Calls Try.prog 4 #[.agg #[.slice A0 l0.length c0, .slice A1 l1.length c1]] w fun e w' => e = .returned (.bool true) ∧ Below w.heap.size w w' := by
  obtain ⟨k, h⟩ := isDesk_pure l0 l1 hm0 hm1
  exact laws_FnExactIsDesk.calls k A0 c0 l0 A1 c1 l1 true w hr0 hc0 hr1 hc1 h
end Go.Proofs.Ytmmopkbbiainmaa.G
