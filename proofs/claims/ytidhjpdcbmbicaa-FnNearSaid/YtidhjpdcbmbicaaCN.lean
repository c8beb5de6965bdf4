/- Numbers of 64 bits that are just, their sums, orders and signs: plain lemmas. No condition beyond those typed. -/
import Derived.Test.YtidhjpdcbmbicaaCH
namespace Go.Proofs.Ytidhjpdcbmbicaa.CN
open Ieee Go.Proofs.Ytidhjpdcbmbicaa.CR Go.Proofs.Ytidhjpdcbmbicaa.CF Go.Proofs.Ytidhjpdcbmbicaa.CG Go.Proofs.Ytidhjpdcbmbicaa.CH

theorem enc_mod (b : Bool) (r : Nat) (hr : r < 9223372036854775808) : enc b r % 9223372036854775808 = r ∧ sgn (enc b r) = b ∧ enc b r < 18446744073709551616 := by
  unfold enc sgn
  cases b
  · simp only [Bool.false_eq_true, if_false]
    exact ⟨by omega, decide_eq_false (by omega), by omega⟩
  · simp only [if_true]
    exact ⟨by omega, decide_eq_true (by omega), by omega⟩
theorem read_enc (b : Bool) (m : Nat) (e : Int) (hm : m < 9007199254740992) (he : -1074 ≤ e) (he2 : e ≤ 971) (hn : e ≠ -1074 → 4503599627370496 ≤ m) : double.read (enc b ((e + 1074).toNat * 4503599627370496 + m)) = .number b m e := by
  obtain ⟨h1, h2, h3⟩ := enc_mod b ((e + 1074).toNat * 4503599627370496 + m) (by omega)
  rw [read_def _ h3, h1, h2]
  have g4 : ∀ y r : Nat, y % 9223372036854775808 = r → y % 4503599627370496 = r % 4503599627370496 := by intro y r h; omega
  have g5 : ∀ y r : Nat, y % 9223372036854775808 = r → y / 4503599627370496 % 2048 = r / 4503599627370496 := by intro y r h; omega
  have h4 := g4 _ _ h1
  have h5 := g5 _ _ h1
  rw [h4, h5]
  clear h1 h2 h3 h4 h5 g4 g5
  by_cases h : (e + 1074).toNat * 4503599627370496 + m < 4503599627370496
  · have he3 : e = -1074 := by
      rcases Classical.em (e = -1074) with h6 | h6
      · exact h6
      · have := hn h6; omega
    subst he3
    rw [if_pos h]
    congr 1
    omega
  · rw [if_neg h, if_pos (by omega)]
    rcases Nat.lt_or_ge m 4503599627370496 with hs | hs
    · have he3 : e = -1074 := by
        rcases Classical.em (e = -1074) with h6 | h6
        · exact h6
        · have := hn h6; omega
      subst he3
      omega
    · congr 1 <;> omega
theorem read_near (b : Bool) (M : Nat) (E : Int) (hM : M < 9007199254740992) (hE : -1000 ≤ E) (hE2 : E ≤ 900) : ∃ (m : Nat) (e : Int), double.read (double.nearest b M E) = .number b m e ∧ -1074 ≤ e ∧ e ≤ E ∧ m = M * 2 ^ (E - e).toNat := by
  by_cases h0 : M = 0
  · subst h0
    rw [near_zero]
    have := read_enc b 0 (-1074) (by omega) (by omega) (by omega) (fun h => absurd rfl h)
    exact ⟨0, -1074, this, by omega, by omega, by rw [Nat.zero_mul]⟩
  · have h1 := log_le h0
    have h2 := lt_log M
    have hl : M.log2 < 53 := log_mono hM h0
    have hs := near_scale b M (52 - M.log2) E h0
    have hb : 4503599627370496 ≤ M * 2 ^ (52 - M.log2) := by
      have : 2 ^ M.log2 * 2 ^ (52 - M.log2) ≤ M * 2 ^ (52 - M.log2) := Nat.mul_le_mul_right _ h1
      rw [← Nat.pow_add, show M.log2 + (52 - M.log2) = 52 by omega] at this
      exact this
    have hb2 : M * 2 ^ (52 - M.log2) < 9007199254740992 := by
      have : M * 2 ^ (52 - M.log2) < 2 ^ (M.log2 + 1) * 2 ^ (52 - M.log2) := Nat.mul_lt_mul_of_pos_right h2 (Nat.pow_pos (by omega))
      rw [← Nat.pow_add, show M.log2 + 1 + (52 - M.log2) = 53 by omega] at this
      exact this
    refine ⟨M * 2 ^ (52 - M.log2), E - (52 - M.log2 : Nat), ?_, by omega, by omega, by congr 2; omega⟩
    rw [← hs, near_self hb2 (by omega) (by omega) (fun _ => hb) (fun h => by omega)]
    exact read_enc b _ _ hb2 (by omega) (by omega) (fun _ => hb)
theorem signed_sg (s : Bool) (m u : Nat) : signed s m u = sg s m * ((2 ^ u : Nat) : Int) := by
  rw [signed_eq]
  unfold sg
  cases s
  · simp
  · simp [Int.neg_mul]
/-- The sum of two numbers that are wholes of one unit is just. -/
theorem add_just {x y m n : Nat} {s t : Bool} {i j E A B : Int} (hx : double.read x = .number s m i) (hy : double.read y = .number t n j) (hi : i ≤ E) (hj : j ≤ E) (hA : sg s m = A * ((2 ^ (E - i).toNat : Nat) : Int)) (hB : sg t n = B * ((2 ^ (E - j).toNat : Nat) : Int)) (hz : A + B = 0 → (s && t) = false) :
    addT x y = double.nearest (decide (A + B < 0)) (A + B).natAbs E := by
  unfold addT Format.add
  rw [hx, hy]
  unfold Datum.sum
  simp only [Option.map_some, Option.getD_some]
  have e1 : signed s m (i - min i j).toNat = A * ((2 ^ (E - min i j).toNat : Nat) : Int) := by
    rw [signed_sg, hA, Int.mul_assoc, ← Int.natCast_mul, ← Nat.pow_add, show (E - i).toNat + (i - min i j).toNat = (E - min i j).toNat by omega]
  have e2 : signed t n (j - min i j).toNat = B * ((2 ^ (E - min i j).toNat : Nat) : Int) := by
    rw [signed_sg, hB, Int.mul_assoc, ← Int.natCast_mul, ← Nat.pow_add, show (E - j).toNat + (j - min i j).toNat = (E - min i j).toNat by omega]
  rw [e1, e2, ← Int.add_mul]
  have hp : 0 < 2 ^ (E - min i j).toNat := Nat.pow_pos (by omega)
  unfold Format.write
  simp only
  have hna : ((A + B) * ((2 ^ (E - min i j).toNat : Nat) : Int)).natAbs = (A + B).natAbs * 2 ^ (E - min i j).toNat := by rw [Int.natAbs_mul, Int.natAbs_natCast]
  rw [hna]
  by_cases h : A + B = 0
  · rw [h, Int.zero_mul, if_pos rfl, hz h, Int.natAbs_zero, Nat.zero_mul, near_zero, near_zero]
    rfl
  · have h3 : ¬ (A + B) * ((2 ^ (E - min i j).toNat : Nat) : Int) = 0 := by
      rw [Int.mul_eq_zero]; omega
    have h4 : decide ((A + B) * ((2 ^ (E - min i j).toNat : Nat) : Int) < 0) = decide (A + B < 0) := by
      rw [decide_eq_decide]
      constructor
      · intro h5
        by_cases h6 : A + B < 0
        · exact h6
        · have := Int.mul_nonneg (show 0 ≤ A + B by omega) (Int.natCast_nonneg (2 ^ (E - min i j).toNat)); omega
      · intro h5
        exact Int.mul_neg_of_neg_of_pos h5 (by omega)
    rw [if_neg h3, h4]
    have hs := near_scale (decide (A + B < 0)) (A + B).natAbs (E - min i j).toNat E (by omega)
    rw [show E - (((E - min i j).toNat : Nat) : Int) = min i j by omega] at hs
    exact hs
theorem order_just {x y m n : Nat} {s t : Bool} {i j E A B : Int} (hx : double.read x = .number s m i) (hy : double.read y = .number t n j) (hi : i ≤ E) (hj : j ≤ E) (hA : sg s m = A * ((2 ^ (E - i).toNat : Nat) : Int)) (hB : sg t n = B * ((2 ^ (E - j).toNat : Nat) : Int)) :
    double.order x y = some (compare A B) := by
  unfold Format.order
  rw [hx, hy]
  unfold Datum.order
  simp only
  have e1 : signed s m (i - min i j).toNat = A * ((2 ^ (E - min i j).toNat : Nat) : Int) := by
    rw [signed_sg, hA, Int.mul_assoc, ← Int.natCast_mul, ← Nat.pow_add, show (E - i).toNat + (i - min i j).toNat = (E - min i j).toNat by omega]
  have e2 : signed t n (j - min i j).toNat = B * ((2 ^ (E - min i j).toNat : Nat) : Int) := by
    rw [signed_sg, hB, Int.mul_assoc, ← Int.natCast_mul, ← Nat.pow_add, show (E - j).toNat + (j - min i j).toNat = (E - min i j).toNat by omega]
  rw [e1, e2, cmp_scale _ _ _ (Nat.pow_pos (by omega))]
theorem sg_near (b : Bool) (M : Nat) (E e : Int) (V : Int) (hV : V = sg b M) : sg b (M * 2 ^ (E - e).toNat) = V * ((2 ^ (E - e).toNat : Nat) : Int) := by
  rw [hV]
  unfold sg
  cases b
  · simp
  · simp [Int.neg_mul]
theorem sg_int (n : Int) : n = sg (decide (n < 0)) n.natAbs := by
  unfold sg
  by_cases h : n < 0
  · rw [decide_eq_true h, if_pos rfl]; omega
  · rw [decide_eq_false h, if_neg (by simp)]; omega
/-! ### The other sign -/
def negT (x : Nat) : Nat := if 9223372036854775808 ≤ x then x - 9223372036854775808 else x + 9223372036854775808
theorem negT_lt (x : Nat) (hx : x < 18446744073709551616) : negT x < 18446744073709551616 := by unfold negT; split <;> omega
theorem negT_nan (x : Nat) (hx : x < 18446744073709551616) : nanB (negT x) = nanB x := by
  unfold nanB negT
  rw [decide_eq_decide]
  split <;> omega
theorem negT_read (x : Nat) (hx : x < 18446744073709551616) : double.read (negT x) = (double.read x).opposite := by
  have e1 : sgn (negT x) = !sgn x := by
    unfold sgn negT
    by_cases h : 9223372036854775808 ≤ x
    · rw [if_pos h, decide_eq_true h, decide_eq_false (by omega)]; rfl
    · rw [if_neg h, decide_eq_false h, decide_eq_true (by omega)]; rfl
  have e2 : negT x % 9223372036854775808 = x % 9223372036854775808 := by unfold negT; split <;> omega
  have e3 : negT x % 4503599627370496 = x % 4503599627370496 := by unfold negT; split <;> omega
  have e4 : negT x / 4503599627370496 % 2048 = x / 4503599627370496 % 2048 := by unfold negT; split <;> omega
  rw [read_def x hx, read_def _ (negT_lt x hx), e1, e2, e3, e4]
  split
  · rfl
  · split
    · rfl
    · split <;> rfl
theorem negT_xor (x : Nat) (hx : x < 18446744073709551616) : x ^^^ 9223372036854775808 = negT x := by
  have e : (2 : Nat) ^ 63 = 9223372036854775808 := rfl
  unfold negT
  by_cases h : 9223372036854775808 ≤ x
  · rw [if_pos h]
    have h1 := CB.xorTop (x - 9223372036854775808) 63 (by omega)
    rw [e, Nat.sub_add_cancel h] at h1
    conv => lhs; rw [← h1]
    rw [Nat.xor_assoc, Nat.xor_self, Nat.xor_zero]
  · rw [if_neg h]
    have h1 := CB.xorTop x 63 (by omega)
    rw [e] at h1
    exact h1
/-! ### One -/
theorem read_one : double.read 4607182418800017408 = .number false 4503599627370496 (-52) := by decide
theorem one_near : double.nearest false 1 0 = 4607182418800017408 := by decide
theorem mul_one (x : Nat) (hx : x < 18446744073709551616) (hn : nanB x = false) : mulT x 4607182418800017408 = x := by
  cases hr : double.read x with
  | nan s f => rw [(read_nan hx).1 ⟨s, f, hr⟩] at hn; cases hn
  | infinity s =>
    unfold mulT Format.mul
    rw [hr, read_one]
    unfold Datum.product
    simp only [if_neg (show ¬ (4503599627370496 : Nat) = 0 by omega), Option.map_some, Option.getD_some, Bool.xor_false]
    rw [write_inf, ← (read_inf hx hr).2]
  | number s m i =>
    rw [mul_fin hr read_one, Bool.xor_false]
    by_cases h : m = 0
    · subst h
      rw [Nat.zero_mul, near_zero, ← near_read hx hr, near_zero]
    · have := near_scale s m 52 i h
      rw [show i + -52 = i - ((52 : Nat) : Int) by omega, show (4503599627370496 : Nat) = 2 ^ 52 from rfl, this, near_read hx hr]
theorem div_one (x : Nat) (hx : x < 18446744073709551616) (hn : nanB x = false) : divT x 4607182418800017408 = x := by
  cases hr : double.read x with
  | nan s f => rw [(read_nan hx).1 ⟨s, f, hr⟩] at hn; cases hn
  | infinity s =>
    unfold divT Format.div
    rw [hr, read_one]
    unfold Datum.quotient
    simp only [Option.map_some, Option.getD_some, Bool.xor_false]
    rw [write_inf, ← (read_inf hx hr).2]
  | number s m i =>
    by_cases h : m = 0
    · subst h
      rw [div_zero hr read_one (by omega), Bool.xor_false, ← near_read hx hr, near_zero]
    · have e52 : (4503599627370496 : Nat) = 2 ^ 52 := rfl
      have hdiv : m * 2 ^ 105 / 4503599627370496 = m * 2 ^ 53 := by
        rw [e52, show (105 : Nat) = 53 + 52 from rfl, Nat.pow_add, ← Nat.mul_assoc]
        exact Nat.mul_div_cancel _ (Nat.pow_pos (by omega))
      have hmod : m * 2 ^ 105 % 4503599627370496 = 0 := by
        rw [e52, show (105 : Nat) = 53 + 52 from rfl, Nat.pow_add, ← Nat.mul_assoc]
        exact Nat.mul_mod_left _ _
      have hq : quo m 4503599627370496 105 = m * 2 ^ 54 := by
        unfold quo
        rw [hdiv, hmod, Nat.pow_succ 2 53]
        simp only [ne_eq, not_true_eq_false, decide_false, Bool.toNat_false]
        omega
      rw [div_fin hr read_one (by omega) h 105 (by rw [hdiv]; have : 1 * 2 ^ 53 ≤ m * 2 ^ 53 := Nat.mul_le_mul_right _ (by omega); exact this), hq, Bool.xor_false]
      have := near_scale s m 54 i h
      rw [show i - -52 - ((105 : Nat) : Int) - 1 = i - ((54 : Nat) : Int) by omega, this, near_read hx hr]
theorem div_self {x y m : Nat} {s t : Bool} {i : Int} (hx : double.read x = .number s m i) (hy : double.read y = .number t m i) (hm : m ≠ 0) : divT x y = double.nearest (s ^^ t) 1 0 := by
  have hdiv : m * 2 ^ 53 / m = 2 ^ 53 := Nat.mul_div_cancel_left _ (by omega)
  have hmod : m * 2 ^ 53 % m = 0 := Nat.mul_mod_right _ _
  have hq : quo m m 53 = 1 * 2 ^ 54 := by
    unfold quo
    rw [hdiv, hmod]
    simp
  rw [div_fin hx hy hm hm 53 (by rw [hdiv]; decide), hq]
  have := near_scale (s ^^ t) 1 54 0 (by omega)
  rw [show i - i - ((53 : Nat) : Int) - 1 = 0 - ((54 : Nat) : Int) by omega, this]
end Go.Proofs.Ytidhjpdcbmbicaa.CN
