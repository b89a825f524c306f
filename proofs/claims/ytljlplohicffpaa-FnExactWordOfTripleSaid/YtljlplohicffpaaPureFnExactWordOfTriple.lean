/- The law FnExactWordOfTriple, pure: the good triples one by one in the kernel, all others refused by both. -/
import Derived.Test.YtljlplohicffpaaVx7
import Derived.Test.YtljlplohicffpaaVx8
import Derived.Test.YtljlplohicffpaaVx16
import Derived.Test.YtljlplohicffpaaVx17
import Derived.Test.YtljlplohicffpaaVx18
import Derived.Test.YtljlplohicffpaaVQMarkov
import Derived.Test.YtljlplohicffpaaVQMark
import Derived.Test.YtljlplohicffpaaVQToInt
namespace Go.Proofs.Ytljlplohicffpaa.Pure
open Go.RowKit Go.Proofs.Ytljlplohicffpaa.P Go.Proofs.YtljlplohicffpaaW.PrintWords Go.Proofs.YtljlplohicffpaaW.PrintLast Go.Proofs.Ytljlplohicffpaa.Q Go.Proofs.Ytljlplohicffpaa.G
theorem good_word : ∀ t ∈ Mark.allT, laws_FnExactWordOfTriple.f 200 [(t.1 : Int), (t.2.1 : Int), (t.2.2 : Int)] = some true := by decide +kernel
theorem FnExactWordOfTriple : laws_FnExactWordOfTriple.Pure := by
  intro a0 _ _ _
  by_cases h : (a0.length : Int) > 1048576
  · refine Ev_out (g := fun k => laws_FnExactWordOfTriple.f k a0) ?_
    unfold laws_FnExactWordOfTriple.f
    exact Ev_true h Ev_some
  obtain ⟨r, hr, hs, hi⟩ := markov_ev (l := a0) (by omega)
  cases r with
  | true =>
    obtain ⟨a, b, c, rfl, h1, h2, h3, h4, h5⟩ := hr rfl
    obtain ⟨x, rfl⟩ := Int.eq_ofNat_of_zero_le (show 0 ≤ a by omega)
    obtain ⟨y, rfl⟩ := Int.eq_ofNat_of_zero_le (show 0 ≤ b by omega)
    obtain ⟨z, rfl⟩ := Int.eq_ofNat_of_zero_le (show 0 ≤ c by omega)
    have hm := Mark.all_triples z x y z (Nat.le_refl _) (by omega) (by omega) (by omega) (by omega) (by exact_mod_cast h5)
    have hg := good_word (x, y, z) hm
    exact ⟨200, hg⟩
  | false =>
    refine Ev_out (g := fun k => laws_FnExactWordOfTriple.f k a0) ?_
    have ta := toIntS_ev (x := a0) (by omega)
    have hS : Ev (fun k => spec_WordOfTriple.f k a0) ((⟨#[]⟩ : ByteArray), false) := by
      unfold spec_WordOfTriple.f
      refine Ev.bind (a := ((⟨#[]⟩ : ByteArray), false)) ?_ (Ev_false (by simp) Ev_some)
      unfold spec_MarkovWord.f
      refine Ev.bind hs (Ev_false (by simp) (Ev_succ ?_))
      simp only [spec_MarkovWord.j0]
      exact Ev_true (by simp) Ev_some
    have hI : Ev (fun k => impl_WordOfTriple.f k a0) ((⟨#[]⟩ : ByteArray), false) := by
      unfold impl_WordOfTriple.f
      refine Ev.bind (a := (([] : List (List Int)), false)) ?_ (Ev_false (by simp) (Ev_succ ?_))
      · unfold impl_MarkovPath.f
        exact Ev.bind hi (Ev_false (by simp) Ev_some)
      · simp only [impl_WordOfTriple.j0]
        exact Ev_true (by simp) Ev_some
    unfold laws_FnExactWordOfTriple.f
    refine Ev_false h (Ev.bind ta (Ev.bind hS (Ev.bind ta (Ev.bind hI (Ev_true rfl ?_)))))
    simp only [bne_self_eq_false]
    refine Ev_succ ?_
    simp only [laws_FnExactWordOfTriple.j0]
    exact Ev_false (by simp) (Ev.bind ta (Ev.bind (eqIntS_same (by omega)) (Ev_true rfl Ev_some)))
end Go.Proofs.Ytljlplohicffpaa.Pure
