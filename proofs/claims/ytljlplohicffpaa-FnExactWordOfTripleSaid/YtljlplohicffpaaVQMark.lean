/- All Markov triples up to 1000000000. -/
namespace Go.Proofs.Ytljlplohicffpaa.Mark
def allT : List (Nat × Nat × Nat) := [(1, 1, 1), (1, 1, 2), (1, 2, 5), (1, 5, 13), (2, 5, 29), (1, 13, 34), (1, 34, 89), (2, 29, 169), (5, 13, 194), (1, 89, 233), (5, 29, 433), (1, 233, 610), (2, 169, 985), (13, 34, 1325), (1, 610, 1597), (5, 194, 2897), (1, 1597, 4181), (2, 985, 5741), (5, 433, 6466), (13, 194, 7561), (34, 89, 9077), (1, 4181, 10946), (29, 169, 14701), (1, 10946, 28657), (2, 5741, 33461), (29, 433, 37666), (5, 2897, 43261), (13, 1325, 51641), (89, 233, 62210), (1, 28657, 75025), (5, 6466, 96557), (34, 1325, 135137), (2, 33461, 195025), (1, 75025, 196418), (13, 7561, 294685), (233, 610, 426389), (169, 985, 499393), (1, 196418, 514229), (5, 43261, 646018), (34, 9077, 925765), (2, 195025, 1136689), (29, 14701, 1278818), (1, 514229, 1346269), (5, 96557, 1441889), (194, 2897, 1686049), (13, 51641, 2012674), (89, 9077, 2423525), (610, 1597, 2922509), (29, 37666, 3276509), (1, 1346269, 3524578), (194, 7561, 4400489), (2, 1136689, 6625109), (169, 14701, 7453378), (433, 6466, 8399329), (1, 3524578, 9227465), (5, 646018, 9647009), (13, 294685, 11485154), (34, 135137, 13782649), (89, 62210, 16609837), (985, 5741, 16964653), (1597, 4181, 20031170), (5, 1441889, 21531778), (1, 9227465, 24157817), (2, 6625109, 38613965), (233, 62210, 43484701), (433, 37666, 48928105), (1, 24157817, 63245986), (13, 2012674, 78442645), (34, 925765, 94418953), (29, 1278818, 111242465), (4181, 10946, 137295677), (5, 9647009, 144059117), (1, 63245986, 165580141), (1325, 51641, 205272962), (2, 38613965, 225058681), (169, 499393, 253191266), (29, 3276509, 285018617), (233, 426389, 298045301), (5, 21531778, 321534781), (2897, 43261, 375981346), (1, 165580141, 433494437), (13, 11485154, 447626321), (1325, 135137, 537169541), (5741, 33461, 576298801), (89, 2423525, 647072098), (610, 426389, 780291637), (10946, 28657, 941038565), (194, 1686049, 981277621)]
theorem closed : allT.all (fun t => (decide (1000000000 + t.2.1 < 3 * t.1 * t.2.2) || allT.contains (t.1, t.2.2, 3 * t.1 * t.2.2 - t.2.1)) && (decide (1000000000 + t.1 < 3 * t.2.1 * t.2.2) || allT.contains (t.2.1, t.2.2, 3 * t.2.1 * t.2.2 - t.1))) = true := by decide +kernel
theorem up_one {x y z : Nat} (h : (x, y, z) ∈ allT) (hb : 3 * x * z ≤ 1000000000 + y) : (x, z, 3 * x * z - y) ∈ allT := by
  have h1 := List.all_eq_true.1 closed _ h
  simp only [Bool.and_eq_true, Bool.or_eq_true, decide_eq_true_eq, List.contains_iff_mem] at h1
  rcases h1.1 with h2 | h2
  · omega
  · exact h2
theorem up_two {x y z : Nat} (h : (x, y, z) ∈ allT) (hb : 3 * y * z ≤ 1000000000 + x) : (y, z, 3 * y * z - x) ∈ allT := by
  have h1 := List.all_eq_true.1 closed _ h
  simp only [Bool.and_eq_true, Bool.or_eq_true, decide_eq_true_eq, List.contains_iff_mem] at h1
  rcases h1.2 with h2 | h2
  · omega
  · exact h2
/-- The triple below. -/
theorem below {a b c : Nat} (ha : 1 ≤ a) (hab : a ≤ b) (hbc : b ≤ c) (h : a * a + b * b + c * c = 3 * (a * b) * c) (hc : 1 < c) : ∃ d, 1 ≤ d ∧ d ≤ b ∧ b < c ∧ d + c = 3 * (a * b) ∧ a * a + b * b + d * d = 3 * (a * b) * d := by
  have hcle : c ≤ 3 * (a * b) := by
    have h1 : c * c ≤ 3 * (a * b) * c := by omega
    exact Nat.le_of_mul_le_mul_right h1 (by omega)
  obtain ⟨d, hd⟩ : ∃ d, 3 * (a * b) = d + c := ⟨3 * (a * b) - c, by omega⟩
  rw [hd, Nat.add_mul] at h
  have hdc : a * a + b * b = d * c := by omega
  have haa : 1 ≤ a * a := Nat.mul_le_mul ha ha
  have hbb : 1 ≤ b * b := Nat.mul_le_mul (by omega : 1 ≤ b) (by omega : 1 ≤ b)
  have hd1 : 1 ≤ d := by
    rcases Nat.eq_zero_or_pos d with e | e
    · subst e; omega
    · exact e
  have heq : a * a + b * b + d * d = 3 * (a * b) * d := by
    rw [hd, Nat.add_mul, hdc, Nat.mul_comm c d]
    omega
  -- b is not greater than both, and not less than both
  have k1 : a * a ≤ b * b := Nat.mul_le_mul hab hab
  have k2 : b * b ≤ a * b * b := by
    rw [Nat.mul_assoc]
    exact Nat.le_mul_of_pos_left _ ha
  have k3 : (d + c) * b = 3 * (a * b * b) := by rw [← hd, Nat.mul_assoc 3]
  have hlt : b < c := by
    rcases Nat.lt_or_ge b c with q | q
    · exact q
    · exfalso
      obtain rfl : b = c := by omega
      -- a a + b b = d b, d + b = 3 a b
      have e2 : (d + b) * b = d * b + b * b := Nat.add_mul _ _ _
      rw [e2] at k3
      have e3 : a * b * b = a * (b * b) := Nat.mul_assoc _ _ _
      rw [e3] at k3 k2
      -- a a + 2 b b = 3 a (b b)
      rcases Nat.lt_or_ge 1 a with w | w
      · have : 2 * (b * b) ≤ a * (b * b) := Nat.mul_le_mul_right _ w
        omega
      · obtain rfl : a = 1 := by omega
        have : b * 1 < b * b := Nat.mul_lt_mul_of_pos_left hc (by omega)
        omega
  have hdb : d ≤ b := by
    rcases Nat.lt_or_ge b d with q | q
    · exfalso
      obtain ⟨x, hx⟩ : ∃ x, c = b + 1 + x := ⟨c - b - 1, by omega⟩
      obtain ⟨y, hy⟩ : ∃ y, d = b + 1 + y := ⟨d - b - 1, by omega⟩
      rw [hx, hy] at hdc k3
      have e1 : (b + 1 + y) * (b + 1 + x) = b * b + b + b + 1 + b * x + x + y * b + y + y * x := by
        simp only [Nat.add_mul, Nat.mul_add, Nat.mul_one, Nat.one_mul]
        omega
      have e2 : (b + 1 + y + (b + 1 + x)) * b = 2 * (b * b) + b + b + y * b + b * x := by
        simp only [Nat.add_mul, Nat.one_mul]
        rw [Nat.mul_comm x b]
        omega
      rw [e1] at hdc
      rw [e2] at k3
      omega
    · exact q
  exact ⟨d, hd1, hdb, hlt, hd.symm, heq⟩
theorem all_triples : ∀ (n a b c : Nat), c ≤ n → 1 ≤ a → a ≤ b → b ≤ c → c ≤ 1000000000 → a * a + b * b + c * c = 3 * (a * b) * c → (a, b, c) ∈ allT
  | 0, a, b, c, h0, h1, h2, h3, h4, h => by omega
  | n + 1, a, b, c, h0, h1, h2, h3, h4, h => by
    by_cases hc : 1 < c
    · obtain ⟨d, d1, d2, d3, d4, d5⟩ := below h1 h2 h3 h hc
      have e : c = 3 * (a * b) - d := by omega
      rcases Nat.le_total a d with q | q
      · have hm := all_triples n a d b (by omega) h1 q d2 (by omega) (by rw [Nat.add_right_comm, d5, Nat.mul_assoc 3 (a * b) d, Nat.mul_assoc 3 (a * d) b, Nat.mul_right_comm a b d])
        have := up_one hm (by rw [Nat.mul_assoc]; omega)
        rw [Nat.mul_assoc] at this
        rw [e]
        exact this
      · have hm := all_triples n d a b (by omega) d1 q h2 (by omega) (by rw [Nat.add_comm (d * d) (a * a), Nat.add_right_comm, d5, Nat.mul_assoc 3 (a * b) d, Nat.mul_assoc 3 (d * a) b, Nat.mul_comm d a, Nat.mul_right_comm a b d])
        have := up_two hm (by rw [Nat.mul_assoc]; omega)
        rw [Nat.mul_assoc] at this
        rw [e]
        exact this
    · obtain rfl : c = 1 := by omega
      obtain rfl : b = 1 := by omega
      obtain rfl : a = 1 := by omega
      decide
end Go.Proofs.Ytljlplohicffpaa.Mark
