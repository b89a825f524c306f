/- laws.markIntSS: marks each number of rows that lie apart. -/
import Derived.Test.YtldkkfpodldbgaaPx2
import Derived.Test.YtldkkfpodldbgaaQLaws
import Derived.Test.YtldkkfpodldbgaaWKept
namespace Go.Proofs.Ytldkkfpodldbgaa.G
open Go.RowKit Go.Proofs.Ytldkkfpodldbgaa.P Go.Proofs.YtldkkfpodldbgaaW.PrintWords Go.Proofs.YtldkkfpodldbgaaW.PrintLast Go.Proofs.Ytldkkfpodldbgaa.Q
set_option linter.unusedVariables false
set_option linter.unusedSimpArgs false

def tot : List (List Int) → Nat
  | [] => 0
  | x :: L => x.length + tot L
def markLL : Int → List (List Int) → List (List Int)
  | _, [] => []
  | a, x :: L => marks a x.length :: markLL (a + x.length) L
theorem markLL_length : ∀ (L : List (List Int)) a, (markLL a L).length = L.length
  | [], _ => rfl
  | x :: L, a => by simp [markLL, markLL_length L]
theorem tot_append (M : List (List Int)) : ∀ L, tot (L ++ M) = tot L + tot M
  | [] => by simp [tot]
  | x :: L => by simp [tot, tot_append M L]; omega
theorem markLL_append (M : List (List Int)) : ∀ (L : List (List Int)) a, markLL a (L ++ M) = markLL a L ++ markLL (a + tot L) M
  | [], a => by simp [markLL, tot]
  | x :: L, a => by
    simp only [List.cons_append, markLL, tot, markLL_append M L]
    congr 3
    omega
/-- What stands behind i rounds. -/
def mid (a : Int) (L : List (List Int)) (i : Nat) : List (List Int) := markLL a (L.take i) ++ L.drop i
theorem mid_length (a : Int) (L : List (List Int)) (i : Nat) (h : i ≤ L.length) : (mid a L i).length = L.length := by
  unfold mid
  rw [List.length_append, markLL_length, List.length_take, List.length_drop]
  omega
theorem mid_at (a : Int) (L : List (List Int)) (i : Nat) (h : i < L.length) : (mid a L i).getD i [] = L[i] := by
  unfold mid
  have hl : (markLL a (L.take i)).length = i := by rw [markLL_length, List.length_take]; omega
  rw [List.getD_eq_getElem?_getD, List.getElem?_append_right (by omega), hl, Nat.sub_self, List.getElem?_drop, Nat.add_zero, List.getElem?_eq_getElem h]
  rfl
theorem mid_next (a : Int) (L : List (List Int)) (i : Nat) (h : i < L.length) : (mid a L i).set i (marks (a + tot (L.take i)) L[i].length) = mid a L (i + 1) := by
  unfold mid
  have hl : (markLL a (L.take i)).length = i := by rw [markLL_length, List.length_take]; omega
  rw [List.take_succ_eq_append_getElem h, markLL_append, List.drop_eq_getElem_cons h, List.set_append, if_neg (by omega), hl, Nat.sub_self, List.set_cons_zero]
  simp [markLL]
theorem tot_take (L : List (List Int)) (i : Nat) (h : i < L.length) : tot (L.take (i + 1)) = tot (L.take i) + L[i].length := by
  rw [List.take_succ_eq_append_getElem h, tot_append]
  simp [tot]
theorem tot_le (L : List (List Int)) (i : Nat) : tot (L.take i) ≤ tot L := by
  have h := tot_append (L.drop i) (L.take i)
  rw [List.take_append_drop] at h
  omega

section
variable {f : Nat → Nat} {e ei base : Nat} {ok : Nat → Prop} {W W' : World} {v : Value} {zs : List (List Int)} {i : Nat} {x : List Int}
/-- One element's row, and what it is when that row has been written. -/
theorem tag_take (h : (Kd.tag f (Kd.slice ei (Kd.int .i64))).R e W base ok v zs.zipIdx) (hi : i < zs.length) :
    ∃ g cap u, v = .slice (some ⟨g, 0, none⟩) zs.length cap ∧ W.cell? ⟨g, i, none⟩ = some u ∧ Kd.R (Kd.int .i64) ei W base (fun k => (ok k ∧ some k ≠ v.ownBlock) ∧ f k = i) u zs[i] ∧
      ∀ (W' : World) (x : List Int), Kept W W' (fun k => (ok k ∧ some k ≠ v.ownBlock) ∧ f k = i) → Kd.R (Kd.int .i64) ei W' base (fun k => (ok k ∧ some k ≠ v.ownBlock) ∧ f k = i) u x →
        (Kd.tag f (Kd.slice ei (Kd.int .i64))).R e W' base ok v (zs.set i x).zipIdx := by
  obtain ⟨h0, inner, ho, hr⟩ := h
  have hlz : zs.zipIdx.length = zs.length := List.length_zipIdx
  have hil : inner.length = zs.length := by
    have := hr.1
    rw [hlz] at this
    simpa [Kd.tag, Kd.slice] using this
  obtain ⟨u, hu, hR⟩ := hr.2 i (zs[i], i) (Kd.zip_at (List.getElem?_eq_getElem hi))
  have hu : (inner.drop (i * 1)).take 1 = [u] := hu
  have hiu : inner[i]? = some u := by
    have h1 := congrArg (fun l : List Value => l[0]?) hu
    simpa [List.getElem?_take, List.getElem?_drop] using h1
  obtain ⟨g, cap, hv, hgb, hgl⟩ := ho.form (by rw [hlz]; omega)
  have hv' : v = .slice (some ⟨g, 0, none⟩) zs.length cap := by rw [hv, hlz]
  refine ⟨g, cap, u, hv', ?_, hR, fun W' x hk hR' => ⟨h0, inner, ?_, ?_, fun j p hj => ?_⟩⟩
  · have hc := ho.cells (g := g) (by rw [hv]; rfl) i u hiu
    rwa [add_plain] at hc
  · rw [List.length_zipIdx, List.length_set, ← hlz]
    exact own_move ho (fun k hk' => hk.2 k (own_lt ho k hk') (fun hn => hn.1.2 hk'.symm))
  · rw [List.length_zipIdx, List.length_set, ← hlz]
    exact hr.1
  · rw [List.getElem?_zipIdx, Nat.zero_add] at hj
    obtain ⟨y, hy, rfl⟩ := Option.map_eq_some_iff.1 hj
    by_cases hji : j = i
    · subst hji
      rw [List.getElem?_set_self hi] at hy
      obtain rfl := Option.some.inj hy
      exact ⟨u, hu, hR'⟩
    · rw [List.getElem?_set_ne (fun he => hji he.symm)] at hy
      have hM : (Kd.slice ei (Kd.int .i64)).M W base (fun k => (ok k ∧ some k ≠ v.ownBlock) ∧ f k = j) y ((inner.drop (j * 1)).take 1) := hr.2 j (y, j) (Kd.zip_at hy)
      refine show (Kd.slice ei (Kd.int .i64)).M W' base (fun k => (ok k ∧ some k ≠ v.ownBlock) ∧ f k = j) y ((inner.drop (j * 1)).take 1) from Kd.M_step hM (fun k hk' hlt => hk.2 k hlt (fun hn => ?_))
      have h1 : f k = j := hk'.2
      have h2 : f k = i := hn.2
      exact hji (by rw [← h1, h2])
end

set_option maxHeartbeats 1000000 in
theorem markSS_any (v : Value) (L : List (List Int)) (a : Int) (ok : Nat → Prop) (w0 w : World) (hB : Below w0.heap.size w0 w) (hS : Kd.S (Kd.slice 3 (Kd.int .i64)) 34 w w0.heap.size ok v L)
    (hn : L.length ≤ 4611686018427387904) (h0 : 0 ≤ a) (ha : a + tot L ≤ 4611686018427387904) :
    Calls Try.prog 71 #[v, .int .i64 a] w fun e w' => e = .returned (.int .i64 (a + tot L)) ∧ Kd.S (Kd.slice 3 (Kd.int .i64)) 34 w' w0.heap.size ok v (markLL a L) ∧ Below w0.heap.size w0 w' ∧ Kept w w' ok := by
  obtain ⟨f, hS⟩ := hS
  obtain ⟨A, c, hv⟩ := Kd.R_slice hS
  rw [List.length_zipIdx] at hv
  have X := Aside0.mk (show (Kd.tag f (Kd.slice 3 (Kd.int .i64))).R 34 w w0.heap.size ok v (mid a L 0).zipIdx ∧ Below w0.heap.size w0 w ∧ Kept w w ok from ⟨by simpa [mid, markLL] using hS, hB, Kept.refl _ _⟩)
  have HN := Aside0.mk hn
  have H0 := Aside0.mk h0
  have HA := Aside0.mk ha
  clear hS hB hn h0 ha
  subst hv
  go_enter Try.func71, Try.ntmps71
  go_wp2
  go_loopg [1, 5] L.length (fun kq v1 v5 w' => ∃ i : Nat, v1 = .int .i64 (a + tot (L.take i)) ∧ v5 = .int .i64 i ∧ Aside0 (i + kq = L.length) ∧ Aside0 ((Kd.tag f (Kd.slice 3 (Kd.int .i64))).R 34 w' w0.heap.size ok (.slice A L.length c) (mid a L i).zipIdx ∧ Below w0.heap.size w0 w' ∧ Kept w w' ok))
  case atStart => exact ⟨0, by simp [tot], rfl, ⟨by omega⟩, X⟩
  case round =>
    clear X
    obtain ⟨i, rfl, rfl, HI, X⟩ := hrel
    cases gk with
    | zero =>
      have hi : i = L.length := by have := HI.out; omega
      have hm : mid a L i = markLL a L := by unfold mid; rw [hi, List.take_length, List.drop_length, List.append_nil]
      have ht : tot (L.take i) = tot L := by rw [hi, List.take_length]
      have hd : decide (i < L.length) = false := decide_eq_false (by omega)
      have Y := Aside0.mk (show Kd.S (Kd.slice 3 (Kd.int .i64)) 34 wr w0.heap.size ok (.slice A L.length c) (markLL a L) ∧ Below w0.heap.size w0 wr ∧ Kept w wr ok from by
        obtain ⟨x1, x2, x3⟩ := X.out
        rw [hm] at x1
        exact ⟨⟨f, x1⟩, x2, x3⟩)
      rw [ht]
      clear X hm ht hi
      go_wp2
      go_ret
      exact ⟨rfl, Y.out⟩
    | succ k1 =>
      have hi : i < L.length := by have := HI.out; omega
      obtain ⟨x1, x2, x3⟩ := X.out
      have hml := mid_length a L i (by omega)
      obtain ⟨g, cap, u, hv, hc, hR, hup⟩ := tag_take (i := i) x1 (by omega)
      have hel : (mid a L i)[i]'(by omega) = L[i] := by
        have h := mid_at a L i hi
        rw [List.getD_eq_getElem?_getD, List.getElem?_eq_getElem (by omega)] at h
        simpa using h
      rw [hel] at hR
      rw [hml] at hv
      injection hv with hA _ hcap
      subst hA hcap
      have htt := tot_take L i hi
      have htl := tot_le L (i + 1)
      have hal := HA.out
      have h0l := H0.out
      have hnl := HN.out
      have hli : L[i].length ≤ tot L := by omega
      obtain ⟨km, hkm⟩ := Ev_out (markIntS_ev (x := L[i]) (a := a + tot (L.take i)) (by omega) (by omega) (by omega))
      have CM := Aside0.mk (laws_markIntS.calls km _ u L[i] _ _ _ w0 wr x2 hR hkm)
      have hd : decide (i < L.length) = true := decide_eq_true hi
      have HU := Aside0.mk (show ∀ W', Kd.R (Kd.int .i64) 3 W' w0.heap.size (fun k_ => (((ok k_ ∧ some k_ ≠ (Value.slice (some ⟨g, 0, none⟩) L.length c).ownBlock) ∧ f k_ = i) ∨ wr.heap.size ≤ k_)) u (marks (a + tot (L.take i)) L[i].length) → Below w0.heap.size w0 W' →
          Kept wr W' (fun k => (ok k ∧ some k ≠ (Value.slice (some ⟨g, 0, none⟩) L.length c).ownBlock) ∧ f k = i) →
          (Kd.tag f (Kd.slice 3 (Kd.int .i64))).R 34 W' w0.heap.size ok (.slice (some ⟨g, 0, none⟩) L.length c) (mid a L (i + 1)).zipIdx ∧ Below w0.heap.size w0 W' ∧ Kept w W' ok from
        fun W' hR' hb' hk' => by
          refine ⟨?_, hb', x3.then_ hk' (fun k hk => .inl hk.1.1)⟩
          rw [← mid_next a L i hi]
          refine hup W' _ hk' ?_
          exact Kd.R_mono (Kd.R_tight rfl hR') (fun k hk => hR.1 k hk.symm))
      have hwr : a + ((tot (L.take i) : Nat) : Int) + ((L[i].length : Nat) : Int) = a + ((tot (L.take (i + 1)) : Nat) : Int) := by omega
      have HW := Aside0.mk hwr
      have HI2 := Aside0.mk (show i + 1 + k1 = L.length by have := HI.out; omega)
      clear hwr x1 x2 x3 hup hR hel hml htt htl hal h0l hli hkm X HI
      go_wp2_with fail
      refine CM.out.mono ?_
      rintro e W' ⟨rfl, hR', hb', hk'⟩
      have Z := Aside0.mk (HU.out W' hR' hb' hk')
      clear hR' hb' hk' CM HU
      go_wp2
      go_roundg k1
      case measure => omega
      case rel => exact ⟨i + 1, by rw [HW.out], by simp, HI2, Z⟩
end Go.Proofs.Ytldkkfpodldbgaa.G
