/- Matrices: isSmall, by hand. -/
import Derived.Test.YtbchhpplglllmaaGMat
namespace Go.Proofs.Ytbchhpplglllmaa.G
open Go.RowKit Go.Proofs.YtbchhpplglllmaaW.PrintWords Go.Proofs.YtbchhpplglllmaaW.PrintLast Go.Proofs.YtbchhpplglllmaaW.PrintMore
set_option linter.unusedVariables false

/-- A row whose numbers are small. -/
def isLow (m : Int) (l : List Int) : Bool := l.all (inB (wrap64 (-m)) m)
theorem isSmall1_any (B : Nat) (m : Int) (A0 : Option Addr) (c0 : Nat) (l : List Int) (w : World) (hr0 : Kd.C (Kd.int .i64) w A0 l.length l) (hb : w.cell? ⟨B, 0, none⟩ = some (.int .i64 m)) :
    Calls Try.prog 77 #[.slice A0 l.length c0, .pointer (some ⟨B, 0, none⟩)] w fun e w' => e = .returned (.bool (!(isLow m l))) ∧ Below w.heap.size w w' := by
  have C := allWithin_any A0 c0 l (wrap64 (-m)) m w hr0
  clear hr0
  unfold isLow
  generalize l.all (inB (wrap64 (-m)) m) = b at C
  go_enter Try.func77, Try.ntmps77
  go_wp2_with fail
  refine C.mono ?_
  rintro e w1 ⟨rfl, hb⟩
  replace hb := Aside0.mk hb
  go_wp2
  go_ret
  exact ⟨rfl, hb.out⟩
set_option maxHeartbeats 1000000 in
theorem indexSmall_any (p : List Int → Bool) (u : Value) (B : Nat) (A0 : Option Addr) (c0 : Nat) (L : List (List Int)) (w : World) (hr0 : Kd.C (Kd.slice 3 (Kd.int .i64)) w A0 L.length L) (h1 : w.cell? ⟨B, 0, none⟩ = some u)
    (V : ∀ (A1 : Option Addr) (c1 : Nat) (l : List Int) (W : World), Kd.C (Kd.int .i64) W A1 l.length l → W.cell? ⟨B, 0, none⟩ = some u →
      Calls Try.prog 77 #[.slice A1 l.length c1, .pointer (some ⟨B, 0, none⟩)] W fun e w' => e = .returned (.bool (!(p l))) ∧ Below W.heap.size W w') :
    Calls Try.prog 74 #[.slice A0 L.length c0, .func (.func 77) #[] #[.pointer (some ⟨B, 0, none⟩)]] w (IdxPostB (!(L.all p)) w) := by
  have HR0 := Aside0.mk hr0
  have VV := Aside0.mk V
  have H1 := Aside0.mk h1
  have hm : L.length ≤ 9223372036854775807 := hr0.2.1
  clear hr0 V h1
  go_enter Try.func74, Try.ntmps74
  go_wp2
  go_loopg [8] L.length (fun kq v w' => ∃ k : Nat, k + kq = L.length ∧ v = .int .i64 k ∧ Aside0 ((L.take k).all p = true) ∧ Aside0 (Below w.heap.size w w'))
  case atStart => exact ⟨0, by omega, rfl, ⟨by simp⟩, ⟨Below.refl _ _⟩⟩
  case round =>
    obtain ⟨k, hk, rfl, hall, HB⟩ := hrel
    by_cases hlt : k < L.length
    · obtain ⟨ad, A1, c1, rfl, hx, hl1, hC1⟩ := row_at (Kd.C_below HR0.out HB.out) k hlt
      have TA := Aside0.mk (take_allR p L k hlt)
      have hgk : ∃ j, gk = j + 1 := ⟨gk - 1, by omega⟩
      obtain ⟨j, rfl⟩ := hgk
      have hd : decide (k < L.length) = true := decide_eq_true hlt
      have C := VV.out A1 c1 L[k] wr hC1 (pw_cell_below HB.out H1.out)
      clear hC1 hl1
      generalize L[k] = x at hx TA C
      cases hb : p x with
      | true =>
        rw [hb] at C TA
        have hN := Aside0.mk (show (L.take (k + 1)).all p = true by rw [TA.out, hall.out]; rfl)
        have C := Aside0.mk C
        clear TA hall hb
        go_wp2_with fail
        refine C.out.mono ?_
        rintro e w' ⟨rfl, hb⟩
        have HB2 := Aside0.mk (below_step HB.out hb)
        clear hb C HB
        go_wp2
        go_roundg j
        case rel => exact ⟨k + 1, by omega, by go_num, hN, HB2⟩
        case measure => omega
      | false =>
        rw [hb] at C TA
        have hN := Aside0.mk (show L.all p = false by
          rw [← List.take_append_drop (k + 1) L, List.all_append, TA.out, hall.out]
          rfl)
        have C := Aside0.mk C
        clear TA hall hb
        go_wp2_with fail
        refine C.out.mono ?_
        rintro e w' ⟨rfl, hb⟩
        have HB2 := Aside0.mk (below_step HB.out hb)
        clear hb C HB
        go_wp2
        go_ret
        exact ⟨⟨_, rfl, by rw [hN.out]; exact decide_eq_true (by omega)⟩, HB2.out⟩
    · have hN := Aside0.mk (show L.all p = true by
        have h := hall.out
        rwa [List.take_of_length_le (by omega)] at h)
      have hgk : gk = 0 := by omega
      subst hgk
      have hd : decide (k < L.length) = false := decide_eq_false hlt
      clear hall
      go_wp2
      go_ret
      exact ⟨⟨_, rfl, by rw [hN.out]; rfl⟩, HB.out⟩

theorem containsSmall_any (p : List Int → Bool) (u : Value) (B : Nat) (A0 : Option Addr) (c0 : Nat) (L : List (List Int)) (w : World) (hr0 : Kd.C (Kd.slice 3 (Kd.int .i64)) w A0 L.length L) (h1 : w.cell? ⟨B, 0, none⟩ = some u)
    (V : ∀ (A1 : Option Addr) (c1 : Nat) (l : List Int) (W : World), Kd.C (Kd.int .i64) W A1 l.length l → W.cell? ⟨B, 0, none⟩ = some u →
      Calls Try.prog 77 #[.slice A1 l.length c1, .pointer (some ⟨B, 0, none⟩)] W fun e w' => e = .returned (.bool (!(p l))) ∧ Below W.heap.size W w') :
    Calls Try.prog 44 #[.slice A0 L.length c0, .func (.func 77) #[] #[.pointer (some ⟨B, 0, none⟩)]] w fun e w' => e = .returned (.bool (!(L.all p))) ∧ Below w.heap.size w w' := by
  have C := indexSmall_any p u B A0 c0 L w hr0 h1 V
  generalize (!(L.all p)) = b at C
  have C := Aside0.mk C
  clear hr0 h1 V
  go_enter Try.func44, Try.ntmps44
  go_wp2_with fail
  refine C.out.mono ?_
  rintro e w' ⟨⟨r, rfl, hr⟩, hb⟩
  replace hr := Aside0.mk hr
  replace hb := Aside0.mk hb
  go_wp2
  go_ret
  exact ⟨by rw [← hr.out]; rfl, hb.out⟩

theorem isSmall_any (A : Option Addr) (c : Nat) (L : List (List Int)) (m : Int) (w : World) (hr : Kd.C (Kd.slice 3 (Kd.int .i64)) w A L.length L) :
    Calls Try.prog 55 #[.agg #[.slice A L.length c], .int .i64 m] w fun e w' => e = .returned (.bool (L.all (isLow m))) ∧ Below w.heap.size w w' := by
  have hmf : ∀ (fn : Fn) (first cap : Array Value) (w : World), (Instr.makeFunc fn first cap).run Try.prog w = .ok (.func fn first cap) w := fun _ _ _ _ => rfl
  have hu := Try.underlying27
  have HB := Aside0.mk (((Below.refl w.heap.size w).alloc (Nat.le_refl _) (.cells #[.slice A L.length c] 27)).alloc (by simp) (.cells #[.int .i64 m] 3))
  have M2 : ((w.alloc (.cells #[.slice A L.length c] 27)).alloc (.cells #[.int .i64 m] 3)).cell? ⟨w.heap.size + 1, 0, none⟩ = some (.int .i64 m) := by
    rw [World.cell?_alloc_at _ _ _ _ (by simp)]; rfl
  have C := containsSmall_any (isLow m) (.int .i64 m) (w.heap.size + 1) A c L _ (Kd.C_below hr HB.out) M2 (fun A1 c1 l W' h1 h2 => isSmall1_any (w.heap.size + 1) m A1 c1 l W' h1 h2)
  clear hr M2
  generalize L.all (isLow m) = b at C
  have C := Aside0.mk C
  go_enter Try.func55, Try.ntmps55
  go_wp2_with fail
  refine C.out.mono ?_
  rintro e w1 ⟨rfl, hb⟩
  have B2 := Aside0.mk (below_step HB.out hb)
  clear hb
  go_wp2
  go_ret
  exact ⟨by simp, B2.out⟩
end Go.Proofs.Ytbchhpplglllmaa.G
