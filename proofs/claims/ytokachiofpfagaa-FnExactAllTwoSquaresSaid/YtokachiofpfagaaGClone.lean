/- slices.Clone at []int: a new slice with the same numbers. -/
import Derived.Test.YtokachiofpfagaaProg
import Derived.Test.YtokachiofpfagaaWWords
import Derived.WalkSpells
namespace Go.Proofs.Ytokachiofpfagaa.G
open Go.RowKit Go.Proofs.YtokachiofpfagaaW.PrintWords

theorem cinfo : (Try.prog.info? 3).map (fun i => (i.zero, i.size, i.bytes)) = some (some (.int .i64 0), 1, 8) := by kernel_rfl

/-- A row of whole numbers that the call owns, in the print's form. -/
theorem R_of_own {W : World} {base : Nat} {v : Value} {xs : List Int} (h : W.ownsRow base 3 1 v xs.length (nums .i64 xs)) : Kd.R (Kd.int .i64) 3 W base (fun _ => True) v xs := by
  refine ⟨fun _ _ => trivial, nums .i64 xs, h, by simp [nums, Kd.int, Kd.scalar], fun j p hj => ?_⟩
  have hl := (List.getElem?_eq_some_iff.1 hj).1
  obtain ⟨_, rfl⟩ := List.getElem?_eq_some_iff.1 hj
  show ((nums .i64 xs).drop (j * 1)).take 1 = [Value.int .i64 xs[j]]
  rw [Nat.mul_one, List.drop_eq_getElem_cons (by simpa [nums] using hl)]
  simp [nums]
theorem C_int {W : World} {A : Option Addr} {n : Nat} {xs : List Int} (h : Kd.C (Kd.int .i64) W A n xs) : ReadsInt W .i64 A n xs := by
  refine ⟨h.1, h.2.1, fun hn => ?_⟩
  obtain ⟨ad, e, hc⟩ := h.2.2 hn
  refine ⟨ad, e, fun j hj => ?_⟩
  have hl : j < xs.length := by have := h.1; omega
  obtain ⟨c, hcl, hk, hcell⟩ := hc j xs[j] (List.getElem?_eq_getElem hl)
  have hk : c = [Value.int .i64 xs[j]] := hk
  subst hk
  have h0 := hcell 0 (.int .i64 xs[j]) rfl
  have e1 : j * (Kd.int .i64).sz + 0 = j := by show j * 1 + 0 = j; omega
  rw [e1] at h0
  rw [h0]
  simp [List.getD_eq_getElem?_getD, List.getElem?_eq_getElem hl]

set_option maxHeartbeats 1000000 in
theorem clone_any (A0 : Option Addr) (c0 : Nat) (l0 : List Int) (w : World) (hr0 : Kd.C (Kd.int .i64) w A0 l0.length l0) (hlim : l0.length ≤ 17592186044416) :
    Calls Try.prog 91 #[.slice A0 l0.length c0] w fun e w' => ∃ v0_ : Value, e = .returned v0_ ∧ Kd.R (Kd.int .i64) 3 w' w.heap.size (fun _ => True) v0_ l0 ∧ Below w.heap.size w w' := by
  have HR := Aside0.mk (C_int hr0)
  have HL := Aside0.mk hlim
  clear hr0 hlim
  cases A0 with
  | none =>
    have h0 : l0 = [] := by
      rcases l0 with _ | ⟨x, l⟩
      · rfl
      · obtain ⟨ad, e, _⟩ := HR.out.2.2 (by simp)
        cases e
    subst h0
    clear HR HL
    have he := fun (W : World) (a : Option Addr) (n c : Nat) => Lib.run_eql_slice_nil (P := Try.prog) W 22 3 a n c 0 0 Try.underlying22
    go_enter Try.func91, Try.ntmps91
    go_wp2
    go_ret
    exact ⟨_, rfl, Kd.R_nil _ _ _ _ _, Below.refl _ _⟩
  | some ad =>
    have he := fun (W : World) (a : Option Addr) (n c : Nat) => Lib.run_eql_slice_nil (P := Try.prog) W 22 3 a n c 0 0 Try.underlying22
    have HO := Aside0.mk (own_lit w w.heap.size 3 .i64 [] (Nat.le_refl _) (by simp))
    have HB := Aside0.mk ((Below.refl w.heap.size w).alloc (Nat.le_refl _) (.cells (nums .i64 []).toArray 3))
    have HR2 := Aside0.mk (HR.out.below (below_alloc (Below.refl _ _) (.cells (nums .i64 []).toArray 3)))
    go_enter Try.func91, Try.ntmps91
    go_wp2_with (at_builtin; refine print_append_row (w0 := w) w.heap.size rfl _ _ 22 3 .i64 8 rfl Try.underlying22 cinfo (by decide) (.slice (some ⟨w.heap.size, 0, none⟩) 0 0) [] l0 (some ad) l0.length c0 rfl rfl HO.out HR2.out HB.out (by simp) (by have := HL.out; simp; omega) ?_)
    intro v1 w1 hown hb _ _
    have hown := Aside0.mk hown
    have hb := Aside0.mk hb
    go_wp2
    go_ret
    exact ⟨_, rfl, R_of_own hown.out, hb.out⟩
end Go.Proofs.Ytokachiofpfagaa.G
