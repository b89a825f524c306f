/- impl.isWord: all bytes of a text are one of two: its closure, slices.IndexFunc and slices.ContainsFunc at []byte, and itself. -/
import Derived.Test.YtbchhpplglllmaaProg
import Derived.Test.YtbchhpplglllmaaWWords
namespace Go.Proofs.Ytbchhpplglllmaa.G
open Go.RowKit Go.Proofs.YtbchhpplglllmaaW.PrintWords
set_option linter.unusedVariables false
set_option linter.unusedSimpArgs false

theorem cell_below_ {W w' : World} {p : Addr} {v : Value} (hb : Below W.heap.size W w') (h : W.cell? p = some v) : w'.cell? p = some v := (hb.cell (World.block_lt_of_cell? W p h)).trans h
def okL (a b x : Int) : Bool := decide (x = a) || decide (x = b)
/-- The closure: is a byte another one? The captured letters lie in two blocks. -/
theorem other_any (B : Nat) (a b x : Int) (w : World) (h1 : w.cell? ⟨B, 0, none⟩ = some (.int .u8 a)) (h2 : w.cell? ⟨B + 1, 0, none⟩ = some (.int .u8 b)) :
    Calls Try.prog 94 #[.int .u8 x, .pointer (some ⟨B, 0, none⟩), .pointer (some ⟨B + 1, 0, none⟩)] w fun e w' => e = .returned (.bool (!(okL a b x))) ∧ w = w' := by
  unfold okL
  by_cases c1 : x = a
  · have d1 : (x == a) = true := beq_iff_eq.mpr c1
    have d2 : (x != a) = false := bne_eq_false_iff_eq.mpr c1
    have d3 : decide (x = a) = true := decide_eq_true c1
    clear c1
    go_enter Try.func94, Try.ntmps94
    go_wp2
    go_ret
    exact ⟨by simp [d3], rfl⟩
  · have d1 : (x == a) = false := beq_eq_false_iff_ne.mpr c1
    have d2 : (x != a) = true := bne_iff_ne.mpr c1
    have d3 : decide (x = a) = false := decide_eq_false c1
    clear c1
    by_cases c2 : x = b
    · have d4 : (x == b) = true := beq_iff_eq.mpr c2
      have d5 : (x != b) = false := bne_eq_false_iff_eq.mpr c2
      have d6 : decide (x = b) = true := decide_eq_true c2
      clear c2
      go_enter Try.func94, Try.ntmps94
      go_wp2
      go_ret
      exact ⟨by simp [d3, d6], rfl⟩
    · have d4 : (x == b) = false := beq_eq_false_iff_ne.mpr c2
      have d5 : (x != b) = true := bne_iff_ne.mpr c2
      have d6 : decide (x = b) = false := decide_eq_false c2
      clear c2
      go_enter Try.func94, Try.ntmps94
      go_wp2
      go_ret
      exact ⟨by simp [d3, d6], rfl⟩
/-- What the search comes to: an index from 0 on if a byte is another one. -/
def IdxPostW (b : Bool) (w : World) (e : Ending) (w' : World) : Prop := (∃ r : Int, e = .returned (.int .i64 r) ∧ decide (0 ≤ r) = b) ∧ w = w'
theorem take_allW (p : Int → Bool) (l : List Int) (k : Nat) (h : k < l.length) : (l.take (k + 1)).all p = ((l.take k).all p && p l[k]) := by
  rw [List.take_succ_eq_append_getElem h, List.all_append]
  simp
set_option maxHeartbeats 1000000 in
theorem indexW_any (B : Nat) (a b : Int) (A0 : Option Addr) (c0 : Nat) (l : List Int) (w : World) (hr0 : ReadsInt w .u8 A0 l.length l)
    (h1 : w.cell? ⟨B, 0, none⟩ = some (.int .u8 a)) (h2 : w.cell? ⟨B + 1, 0, none⟩ = some (.int .u8 b)) :
    Calls Try.prog 96 #[.slice A0 l.length c0, .func (.func 94) #[] #[.pointer (some ⟨B, 0, none⟩), .pointer (some ⟨B + 1, 0, none⟩)]] w (IdxPostW (!(l.all (okL a b))) w) := by
  have HR0 := Aside0.mk hr0
  have hm : l.length ≤ 9223372036854775807 := hr0.2.1
  clear hr0
  go_enter Try.func96, Try.ntmps96
  go_wp2
  go_loop [5, 8] (fun _ v => ∃ k : Nat, k ≤ l.length ∧ v = .int .i64 k ∧ Aside0 ((l.take k).all (okL a b) = true)) (fun _ v => l.length - (intOf v).toNat)
  case atStart => exact ⟨0, Nat.zero_le _, rfl, ⟨by simp⟩⟩
  case round =>
    obtain ⟨k, hk, rfl, hall⟩ := hrel
    by_cases hlt : k < l.length
    · obtain ⟨ad, e0, hx⟩ := ReadsInt.at_ HR0.out (k : Int) (by omega) (by omega)
      cases e0
      have hrd : rd l (k : Int) = l[k] := by simp [rd, List.getD_eq_getElem?_getD, List.getElem?_eq_getElem hlt]
      rw [hrd] at hx
      simp only [Int.toNat_natCast] at hx
      have TA := Aside0.mk (take_allW (okL a b) l k hlt)
      generalize l[k] = x at hx TA
      clear hrd
      cases hb : okL a b x with
      | true =>
        have hN := Aside0.mk (show (l.take (k + 1)).all (okL a b) = true by rw [TA.out, hall.out]; exact hb)
        clear TA hall
        have C := fun W (g1 : W.cell? ⟨B, 0, none⟩ = some (.int .u8 a)) (g2 : W.cell? ⟨B + 1, 0, none⟩ = some (.int .u8 b)) => other_any B a b x W g1 g2
        rw [hb] at C
        clear hb
        go_wp2_with (go_at_call 94; refine (C _ h1 h2).mono ?_; rintro e w' ⟨rfl, rfl⟩)
        go_round
        case rel => exact ⟨k + 1, by omega, by go_num, hN⟩
        case measure => simp [intOf]; omega
      | false =>
        have hN := Aside0.mk (show l.all (okL a b) = false by
          rw [← List.take_append_drop (k + 1) l, List.all_append, TA.out, hall.out]
          show (true && okL a b x && _) = false
          rw [hb]; rfl)
        clear TA hall
        have C := fun W (g1 : W.cell? ⟨B, 0, none⟩ = some (.int .u8 a)) (g2 : W.cell? ⟨B + 1, 0, none⟩ = some (.int .u8 b)) => other_any B a b x W g1 g2
        rw [hb] at C
        clear hb
        go_wp2_with (go_at_call 94; refine (C _ h1 h2).mono ?_; rintro e w' ⟨rfl, rfl⟩)
        go_ret
        exact ⟨⟨_, rfl, by rw [hN.out]; exact decide_eq_true (by omega)⟩, rfl⟩
    · have hN := Aside0.mk (show l.all (okL a b) = true by
        have h := hall.out
        rwa [List.take_of_length_le (by omega)] at h)
      clear hall
      go_wp2
      go_ret
      exact ⟨⟨_, rfl, by rw [hN.out]; rfl⟩, rfl⟩
theorem containsW_any (B : Nat) (a b : Int) (A0 : Option Addr) (n c0 : Nat) (l : List Int) (w : World) (hn : l.length = n) (hr0 : ReadsInt w .u8 A0 l.length l)
    (h1 : w.cell? ⟨B, 0, none⟩ = some (.int .u8 a)) (h2 : w.cell? ⟨B + 1, 0, none⟩ = some (.int .u8 b)) :
    Calls Try.prog 93 #[.slice A0 n c0, .func (.func 94) #[] #[.pointer (some ⟨B, 0, none⟩), .pointer (some ⟨B + 1, 0, none⟩)]] w fun e w' => e = .returned (.bool (!(l.all (okL a b)))) ∧ w = w' := by
  subst hn
  have C := fun W (g0 : ReadsInt W .u8 A0 l.length l) (g1 : W.cell? ⟨B, 0, none⟩ = some (.int .u8 a)) (g2 : W.cell? ⟨B + 1, 0, none⟩ = some (.int .u8 b)) => indexW_any B a b A0 c0 l W g0 g1 g2
  generalize (!(l.all (okL a b))) = r at C
  have HR0 := Aside0.mk hr0
  clear hr0
  go_enter Try.func93, Try.ntmps93
  go_wp2_with (go_at_call 96; refine (C _ HR0.out h1 h2).mono ?_; rintro e w' ⟨⟨r, rfl, hr⟩, rfl⟩; replace hr := Aside0.mk hr)
  go_ret
  exact ⟨by rw [← hr.out]; rfl, rfl⟩
/-- A text of at most 40 bytes that are one of two. -/
def isWordB (s : ByteArray) (a b : Int) : Bool := decide (s.size ≤ 40) && (bytesOf s).all (okL a b)
theorem isWord_any (s : ByteArray) (a b : Int) (w : World) :
    Calls Try.prog 86 #[.string s, .int .u8 a, .int .u8 b] w fun e w' => e = .returned (.bool (isWordB s a b)) ∧ Below w.heap.size w w' := by
  have hmf : ∀ (fn : Fn) (first cap : Array Value) (w : World), (Instr.makeFunc fn first cap).run Try.prog w = .ok (.func fn first cap) w := fun _ _ _ _ => rfl
  have HB := Aside0.mk (((Below.refl w.heap.size w).alloc (Nat.le_refl _) (.cells #[.int .u8 a] 5)).alloc (by simp) (.cells #[.int .u8 b] 5))
  unfold isWordB
  by_cases h : s.size ≤ 40
  · have d1 : decide (s.size ≤ 40) = true := decide_eq_true h
    have d2 : decide ((s.size : Int) ≤ 40) = true := decide_eq_true (by omega)
    have kb := fun W => print_bytes (P := Try.prog) 9 77 5 Try.underlying9 Try.underlying77 Try.underlying5 s W
    have M2 : ((w.alloc (.cells #[.int .u8 a] 5)).alloc (.cells #[.int .u8 b] 5)).cell? ⟨w.heap.size, 0, none⟩ = some (.int .u8 a) := by
      rw [World.cell?_alloc_past _ _ _ (by simp), World.cell?_alloc_at _ _ _ _ rfl]; rfl
    have D2 : ((w.alloc (.cells #[.int .u8 a] 5)).alloc (.cells #[.int .u8 b] 5)).cell? ⟨w.heap.size + 1, 0, none⟩ = some (.int .u8 b) := by
      rw [World.cell?_alloc_at _ _ _ _ (by simp)]; rfl
    generalize hW : (w.alloc (.cells #[.int .u8 a] 5)).alloc (.cells #[.int .u8 b] 5) = W at M2 D2 HB
    have hr : ReadsInt (Lib.bytesWorld W 5 s) .u8 (some ⟨W.heap.size, 0, none⟩) (bytesOf s).length (bytesOf s) := by
      rw [bytesOf_length]
      exact (bytes_reads W 5 s (by omega))
    have hb := bytes_below (Below.refl W.heap.size W) (Nat.le_refl _) 5 s
    have hs : W.heap.size = w.heap.size + 1 + 1 := by rw [← hW]; simp
    rw [hs] at hr
    have C := Aside0.mk (containsW_any w.heap.size a b (some ⟨w.heap.size + 1 + 1, 0, none⟩) s.size (grownCap W s.size 0 5) (bytesOf s) (Lib.bytesWorld W 5 s) (bytesOf_length s) hr (cell_below_ hb M2) (cell_below_ hb D2))
    have HB2 := Aside0.mk (below_step HB.out hb)
    clear hb hr M2 D2 h HB hs
    subst hW
    generalize (bytesOf s).all (okL a b) = r at C
    go_enter Try.func86, Try.ntmps86
    go_wp2_with fail
    refine C.out.mono ?_
    rintro e w' ⟨rfl, rfl⟩
    go_wp2
    go_ret
    exact ⟨by simp [d1], HB2.out⟩
  · have d1 : decide (s.size ≤ 40) = false := decide_eq_false h
    have d2 : decide ((s.size : Int) ≤ 40) = false := decide_eq_false (by omega)
    clear h
    generalize (bytesOf s).all (okL a b) = r
    go_enter Try.func86, Try.ntmps86
    go_wp2
    go_ret
    exact ⟨by simp [d1], HB.out⟩
end Go.Proofs.Ytbchhpplglllmaa.G
