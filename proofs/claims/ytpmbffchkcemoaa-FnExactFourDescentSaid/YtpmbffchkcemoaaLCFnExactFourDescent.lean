/- The law FnExactFourDescent, walked by hand: both functions' answers are the same rows. -/
import Derived.Test.YtpmbffchkcemoaaFx3
import Derived.Test.YtpmbffchkcemoaaFx6
import Derived.Test.YtpmbffchkcemoaaFx7
import Derived.Test.YtpmbffchkcemoaaFQLawsSS
namespace Go.Proofs.Ytpmbffchkcemoaa.G
open Go.RowKit Go.Proofs.Ytpmbffchkcemoaa.P Go.Proofs.YtpmbffchkcemoaaW.PrintWords Go.Proofs.YtpmbffchkcemoaaW.PrintLast Go.Proofs.Ytpmbffchkcemoaa.Q
set_option linter.unusedVariables false
set_option linter.unusedSimpArgs false
set_option maxHeartbeats 4000000 in
set_option maxRecDepth 100000 in
theorem FnExactFourDescent_calls (k : Nat) (a0 : Int) (L : List (List Int)) (b : Bool) (w : World) (hs : spec_FourDescent.f k a0 = some (L, b)) (hi : impl_FourDescent.f k a0 = some (L, b))
    (hn : L.length ≤ 1000000000000) (hx : ∀ x ∈ L, x.length ≤ 1000) :
    Calls Try.prog 3 #[.int .i64 a0] w fun e w' => e = .returned (.bool true) ∧ Below w.heap.size w w' := by
  have ht : tot L ≤ 1000000000000 * 1000 := Nat.le_trans (tot_bound L hx) (Nat.mul_le_mul_right _ hn)
  obtain ⟨ke, hke⟩ := Ev_out (eqIntSS_same (L := L) (by omega) (fun x h => by have := hx x h; omega))
  obtain ⟨kh, hkh⟩ := Ev_out (heldIntSS_ev (L := L) (a := 1) (by omega) (by omega) (by omega))
  have HE := Aside0.mk hke
  have HH := Aside0.mk hkh
  have HN := Aside0.mk (show L.length ≤ 4611686018427387904 by omega)
  have HA := Aside0.mk (show (1 : Int) + tot L ≤ 4611686018427387904 by omega)
  have HS := Aside0.mk hs
  have HI := Aside0.mk hi
  have e1 : decide (1 + ((tot L : Nat) : Int) < 0) = false := decide_eq_false (by omega)
  clear hke hkh hs hi hn hx ht
  go_enter Try.func3, Try.ntmps3
  go_wp2_with fail
  refine (spec_FourDescent.calls k a0 L b _ HS.out).mono ?_
  rintro e w1 ⟨v0, rfl, hS0, hB1⟩
  obtain ⟨A0, c0, rfl, hl0, hC0⟩ := Kd.N_reads hS0
  have C0 := Aside0.mk hC0
  have L0 := Aside0.mk hl0
  have B1 := Aside0.mk hB1
  clear hS0 hl0 hC0 hB1 HS
  go_wp2_with fail
  refine (impl_FourDescent.calls k a0 L b _ HI.out).mono ?_
  rintro e w2 ⟨v1, rfl, hS1, hB2⟩
  obtain ⟨A1, c1, rfl, hl1, hC1⟩ := Kd.S_reads hS1
  have C1 := Aside0.mk hC1
  have L1 := Aside0.mk hl1
  have S1 := Aside0.mk hS1
  have B2 := Aside0.mk hB2
  clear hS1 hl1 hC1 hB2
  go_wp2_with fail
  refine (laws_eqIntSS.calls ke A1 c1 L A0 c0 L true _ C1.out L1.out (Kd.C_below C0.out B2.out) L0.out HE.out).mono ?_
  rintro e w3 ⟨rfl, hD3⟩
  have B3 := Aside0.mk (below_step B2.out (Drawn0.below hD3))
  have S3 := Aside0.mk (Kd.S_below S1.out (Drawn0.below hD3))
  clear hD3 C1 S1 B2
  go_wp2_with fail
  refine (markSS_any _ L 1 (fun _ => True) w1 w3 B3.out S3.out HN.out (by omega) HA.out).mono ?_
  rintro e w4 ⟨rfl, hS4, hB4, _⟩
  obtain ⟨A4, c4, he4, hl4, hC4⟩ := Kd.S_reads hS4
  rw [markLL_length] at he4
  obtain ⟨rfl, _, rfl⟩ : A1 = A4 ∧ L.length = L.length ∧ c1 = c4 := by injection he4 with x y z; exact ⟨x, y, z⟩
  have C4 := Aside0.mk (show Kd.C (Kd.slice 3 (Kd.int .i64)) w4 A1 (markLL 1 L).length (markLL 1 L) from hC4)
  have L4 := Aside0.mk (show (markLL 1 L).length ≤ c1 from hl4)
  have B4 := Aside0.mk hB4
  have hM := markLL_length L 1
  have HK := Aside0.mk (show ∀ w', Kd.C (Kd.slice 3 (Kd.int .i64)) w' A1 (markLL 1 L).length (markLL 1 L) → Calls Try.prog 12 #[.slice A1 L.length c1, .int .i64 1] w' fun e w'' => e = .returned (.int .i64 (1 + tot L)) ∧ Drawn0 w' w'' from
    fun w' hC => by
      have h := laws_heldIntSS.calls kh A1 c1 (markLL 1 L) 1 (1 + tot L) w' hC L4.out HH.out
      rw [hM] at h
      exact h)
  clear hS4 hB4 hC4 hl4 he4 S3 B3 hM L4 HH
  go_wp2_with fail
  refine (HK.out _ C4.out).mono ?_
  rintro e w5 ⟨rfl, hD5⟩
  have B5 := Aside0.mk (below_step B4.out (Drawn0.below hD5))
  have C5 := Aside0.mk (Kd.C_below C4.out (Drawn0.below hD5))
  clear hD5 B4 C4
  go_wp2_with fail
  refine (impl_FourDescent.calls k a0 L b _ HI.out).mono ?_
  rintro e w6 ⟨v6, rfl, hS6, hB6⟩
  obtain ⟨A6, c6, rfl, hl6, hC6⟩ := Kd.S_reads hS6
  have B6 := Aside0.mk (below_step B5.out hB6)
  have C6 := Aside0.mk hC6
  have L6 := Aside0.mk hl6
  have C7 := Aside0.mk (Kd.C_below C5.out hB6)
  clear hS6 hB6 hl6 hC6 B5 C5
  go_wp2_with fail
  refine (laws_eqIntSS.calls ke A6 c6 L A0 c0 L true _ C6.out L6.out (Kd.C_below C0.out B6.out) L0.out HE.out).mono ?_
  rintro e w8 ⟨rfl, hD8⟩
  have B8 := Aside0.mk (below_step B6.out (Drawn0.below hD8))
  have C8 := Aside0.mk (Kd.C_below C7.out (Drawn0.below hD8))
  clear hD8 B6 C6 C7
  go_wp2_with fail
  refine (HK.out _ C8.out).mono ?_
  rintro e w9 ⟨rfl, hD9⟩
  have B9 := Aside0.mk (below_step B1.out (below_step B8.out (Drawn0.below hD9)))
  clear hD9 B8 C8 B1
  go_wp2
  go_ret
  exact ⟨rfl, B9.out⟩
end Go.Proofs.Ytpmbffchkcemoaa.G
