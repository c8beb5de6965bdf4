/- Rounding to the nearest number of 64 bits, told by the standard's words and by plain whole numbers: the two are one. No condition beyond those typed. -/
import Derived.Test.YtidhjpdcbmbicaaCB
import Ieee.Arith
import Derived.Lib.BitFns
namespace Go.Proofs.Ytidhjpdcbmbicaa.CR
open Ieee

/-- n by 2^d, to the nearest; of two the even one. -/
def rne (n d : Nat) : Nat := n / 2 ^ d + if 2 ^ d < 2 * (n % 2 ^ d) ∨ (2 ^ d = 2 * (n % 2 ^ d) ∧ n / 2 ^ d % 2 = 1) then 1 else 0
/-- What is just above n by 2^d, to the nearest. -/
def rneS (n d : Nat) : Nat := n / 2 ^ d + if 2 ^ d ≤ 2 * (n % 2 ^ d) then 1 else 0
theorem rne_zero (n : Nat) : rne n 0 = n := by
  unfold rne
  rw [Nat.pow_zero, Nat.mod_one, Nat.div_one, if_neg (by omega)]; rfl
theorem lt_log (n : Nat) : n < 2 ^ (n.log2 + 1) := Nat.lt_log2_self
theorem log_le {n : Nat} (h : n ≠ 0) : 2 ^ n.log2 ≤ n := Nat.log2_self_le h
theorem log_of {n k : Nat} (h0 : 2 ^ k ≤ n) (h1 : n < 2 ^ (k + 1)) : n.log2 = k := by
  have hn : n ≠ 0 := by have : 0 < 2 ^ k := Nat.pow_pos (by omega); omega
  exact (Nat.log2_eq_iff hn).2 ⟨h0, h1⟩
theorem log_mono {n k : Nat} (h : n < 2 ^ k) (hn : n ≠ 0) : n.log2 < k := (Nat.log2_lt hn).2 h
theorem log_ge {n k : Nat} (h : 2 ^ k ≤ n) : k ≤ n.log2 := by
  have hn : n ≠ 0 := by have : 0 < 2 ^ k := Nat.pow_pos (by omega); omega
  exact (Nat.le_log2 hn).2 h
theorem cut_even (b : Bool) (n d : Nat) : Toward.even.cut b n d = rne n d := by
  unfold Toward.cut rne
  simp only [Nat.one_shiftLeft]
  have hl := lt_log n
  by_cases h : d ≤ n.log2 + 2
  · rw [Nat.min_eq_left h]
    congr 1
    by_cases h1 : 2 ^ d < 2 * (n % 2 ^ d)
    · simp [h1]
    · by_cases h2 : 2 ^ d = 2 * (n % 2 ^ d)
      · by_cases h3 : n / 2 ^ d % 2 = 1
        · rw [if_pos (.inr ⟨h2, h3⟩)]; simp [h3, ← h2]
        · rw [if_neg (by omega)]; simp [h3, h1]
      · rw [if_neg (by omega)]; simp [h1, h2]
  · rw [Nat.min_eq_right (by omega)]
    have hp : (2 : Nat) ^ (n.log2 + 2) = 2 * 2 ^ (n.log2 + 1) := by rw [Nat.pow_succ 2 (n.log2 + 1)]; omega
    have hq : 2 ^ (n.log2 + 2) ≤ 2 ^ d := Nat.pow_le_pow_right (by omega) (by omega)
    generalize 2 ^ (n.log2 + 2) = p at *
    generalize 2 ^ (n.log2 + 1) = q at *
    generalize 2 ^ d = r at *
    rw [Nat.div_eq_of_lt (show n < p by omega), Nat.mod_eq_of_lt (show n < p by omega), Nat.div_eq_of_lt (show n < r by omega), Nat.mod_eq_of_lt (show n < r by omega), if_neg (by omega)]
    have e1 : decide (p < 2 * n) = false := decide_eq_false (by omega)
    simp [e1]
/-- The place of the last digit that is kept. -/
def lastP (M : Nat) (E : Int) : Int := max (E + M.log2 - 52) (-1074)
/-- A sign ahead of a pattern. -/
def enc (b : Bool) (r : Nat) : Nat := if b then 9223372036854775808 + r else r
/-- The pattern of what is kept, its last digit at a place. -/
def packN (b : Bool) (last : Int) (kept : Nat) : Nat := enc b (min ((last + 1074).toNat * 4503599627370496 + kept) 9218868437227405312)
theorem near_eq (b : Bool) (M : Nat) (E : Int) (h : M ≠ 0) : double.nearest b M E = packN b (lastP M E) (rne (M * 2 ^ (E - lastP M E).toNat) (lastP M E - E).toNat) := by
  unfold Format.nearest
  rw [if_neg h]
  simp only [cut_even, Nat.shiftLeft_eq]
  rfl
theorem near_zero (b : Bool) (E : Int) : double.nearest b 0 E = enc b 0 := by
  unfold Format.nearest
  rw [if_pos rfl]
  rfl
theorem near_down (b : Bool) (M : Nat) (E : Int) (h : M ≠ 0) (hl : E ≤ lastP M E) : double.nearest b M E = packN b (lastP M E) (rne M (lastP M E - E).toNat) := by
  rw [near_eq b M E h, show (E - lastP M E).toNat = 0 by omega, Nat.pow_zero, Nat.mul_one]
theorem near_up (b : Bool) (M : Nat) (E : Int) (h : M ≠ 0) (hl : lastP M E ≤ E) : double.nearest b M E = packN b (lastP M E) (M * 2 ^ (E - lastP M E).toNat) := by
  rw [near_eq b M E h, show (lastP M E - E).toNat = 0 by omega, rne_zero]
theorem rne_two (n d : Nat) (hd : 1 ≤ d) : rne (2 * n + 1) (d + 1) = rneS n d := by
  unfold rne rneS
  obtain ⟨c, rfl⟩ : ∃ c, d = c + 1 := ⟨d - 1, by omega⟩
  have e1 : (2 : Nat) ^ (c + 1 + 1) = 2 * 2 ^ (c + 1) := by rw [Nat.pow_succ 2 (c + 1)]; omega
  have e2 : (2 : Nat) ^ (c + 1) = 2 * 2 ^ c := by rw [Nat.pow_succ 2 c]; omega
  have hp : 0 < 2 ^ c := Nat.pow_pos (by omega)
  have q1 : (2 * n + 1) / 2 ^ (c + 1 + 1) = n / 2 ^ (c + 1) := by
    rw [e1, ← Nat.div_div_eq_div_mul, show (2 * n + 1) / 2 = n by omega]
  have q2 : (2 * n + 1) % 2 ^ (c + 1 + 1) = 2 * (n % 2 ^ (c + 1)) + 1 := by
    have h1 := Nat.div_add_mod (2 * n + 1) (2 ^ (c + 1 + 1))
    have h2 := Nat.div_add_mod n (2 ^ (c + 1))
    rw [q1, e1, Nat.mul_assoc] at h1
    rw [e1]
    omega
  rw [q1, q2]
  generalize n / 2 ^ (c + 1) = u
  generalize n % 2 ^ (c + 1) = v
  rw [e1, e2]
  generalize 2 ^ c = w at *
  congr 1
  by_cases h : 2 * w ≤ 2 * v
  · rw [if_pos h, if_pos (.inl (by omega))]
  · rw [if_neg h, if_neg (by omega)]
theorem rne_odd (n d : Nat) (hd : 2 ≤ d) : rne (n ||| 1) d = rneS n d := by
  unfold rne rneS
  obtain ⟨c, rfl⟩ : ∃ c, d = c + 2 := ⟨d - 2, by omega⟩
  have e2 : (2 : Nat) ^ (c + 2) = 4 * 2 ^ c := by rw [Nat.pow_succ, Nat.pow_succ]; omega
  have hp : 0 < 2 ^ c := Nat.pow_pos (by omega)
  have e3 : n ||| 1 = 2 * (n / 2) + 1 := by
    have h3 : 2 * (n / 2) + 1 = 2 * (n / 2) ||| 1 := Nat.two_pow_add_eq_or_of_lt (i := 1) (show 1 < 2 ^ 1 by omega) (n / 2)
    rw [h3]
    rcases Nat.mod_two_eq_zero_or_one n with h | h
    · have h4 : n = 2 * (n / 2) := by omega
      conv => lhs; rw [h4]
    · have h4 : n = 2 * (n / 2) ||| 1 := by omega
      conv => lhs; rw [h4]
      rw [Nat.or_assoc, Nat.or_self]
  rw [e3, e2]
  generalize 2 ^ c = w at *
  have q1 : (2 * (n / 2) + 1) / (4 * w) = n / (4 * w) := by
    rw [show 4 * w = 2 * (2 * w) by omega, ← Nat.div_div_eq_div_mul (2 * (n / 2) + 1), ← Nat.div_div_eq_div_mul n, show (2 * (n / 2) + 1) / 2 = n / 2 by omega]
  have h1 := Nat.div_add_mod (2 * (n / 2) + 1) (4 * w)
  have h2 := Nat.div_add_mod n (4 * w)
  have h3 := Nat.mod_lt (2 * (n / 2) + 1) (show 0 < 4 * w by omega)
  have h4 := Nat.mod_lt n (show 0 < 4 * w by omega)
  rw [q1] at h1 ⊢
  generalize n / (4 * w) = u at *
  rw [Nat.mul_assoc] at h1 h2
  generalize w * u = t at *
  generalize (2 * (n / 2) + 1) % (4 * w) = v at *
  generalize n % (4 * w) = x at *
  congr 1
  by_cases h : 4 * w ≤ 2 * x
  · rw [if_pos h, if_pos (.inl (by omega))]
  · rw [if_neg h, if_neg (by omega)]
theorem log_two (M : Nat) (h : M ≠ 0) : (2 * M + 1).log2 = M.log2 + 1 := by
  have h1 := log_le h
  have h2 := lt_log M
  apply log_of
  · rw [Nat.pow_succ]; omega
  · rw [Nat.pow_succ]; omega
theorem log_or (M : Nat) (h : M ≠ 0) : (M ||| 1).log2 = M.log2 := by
  have h1 := log_le h
  have h2 := lt_log M
  apply log_of
  · exact Nat.le_trans h1 Nat.left_le_or
  · exact Nat.or_lt_two_pow h2 (Nat.lt_of_lt_of_le (show 1 < 2 ^ 1 by omega) (Nat.pow_le_pow_right (by omega) (by omega)))
/-- The number nearest to M times 2^E; with st: to what is just above it. -/
def nearS (b : Bool) (M : Nat) (E : Int) (st : Bool) : Nat := if st then double.nearest b (2 * M + 1) (E - 1) else double.nearest b M E
theorem lastP_big (M : Nat) (E : Int) (h : 72057594037927936 ≤ M) : E + 4 ≤ lastP M E := by
  have := log_ge (n := M) (k := 56) h
  unfold lastP; omega
theorem near_st (b : Bool) (M : Nat) (E : Int) (h : 72057594037927936 ≤ M) : nearS b M E true = packN b (lastP M E) (rneS M (lastP M E - E).toNat) := by
  have h4 := lastP_big M E h
  have e : lastP (2 * M + 1) (E - 1) = lastP M E := by unfold lastP; rw [log_two M (by omega)]; omega
  unfold nearS
  rw [if_pos rfl, near_down b _ _ (by omega) (by omega), e, show (lastP M E - (E - 1)).toNat = (lastP M E - E).toNat + 1 by omega, rne_two _ _ (by omega)]
theorem near_or (b : Bool) (M : Nat) (E : Int) (h : 72057594037927936 ≤ M) : nearS b M E true = packN b (lastP M E) (rne (M ||| 1) (lastP M E - E).toNat) := by
  have h4 := lastP_big M E h
  rw [near_st b M E h, rne_odd _ _ (by omega)]
/-- What is kept has no more than 53 binary figures; 53 of them, but at the least place. -/
theorem rne_le (n d k : Nat) (h : n < 2 ^ (k + d)) : rne n d ≤ 2 ^ k := by
  have h1 : n / 2 ^ d < 2 ^ k := Nat.div_lt_of_lt_mul (by rw [← Nat.pow_add, Nat.add_comm]; exact h)
  unfold rne
  split <;> omega
theorem rne_ge (n d k : Nat) (h : 2 ^ (k + d) ≤ n) : 2 ^ k ≤ rne n d := by
  have h1 : 2 ^ k ≤ n / 2 ^ d := (Nat.le_div_iff_mul_le (Nat.pow_pos (by omega))).2 (by rw [← Nat.pow_add]; exact h)
  unfold rne
  omega
theorem kept_range (M : Nat) (E : Int) (h : M ≠ 0) :
    rne (M * 2 ^ (E - lastP M E).toNat) (lastP M E - E).toNat ≤ 9007199254740992 ∧ (lastP M E ≠ -1074 → 4503599627370496 ≤ rne (M * 2 ^ (E - lastP M E).toNat) (lastP M E - E).toNat) := by
  have h1 := log_le h
  have h2 := lt_log M
  by_cases hd : lastP M E ≤ E
  · rw [show (lastP M E - E).toNat = 0 by omega, rne_zero]
    have hk : M.log2 + (E - lastP M E).toNat ≤ 52 := by unfold lastP at hd ⊢; omega
    constructor
    · have : M * 2 ^ (E - lastP M E).toNat < 2 ^ (M.log2 + 1) * 2 ^ (E - lastP M E).toNat := Nat.mul_lt_mul_of_pos_right h2 (Nat.pow_pos (by omega))
      rw [← Nat.pow_add] at this
      exact Nat.le_of_lt (Nat.lt_of_lt_of_le this (Nat.pow_le_pow_right (n := 2) (by omega) (show M.log2 + 1 + (E - lastP M E).toNat ≤ 53 by omega)))
    · intro hne
      have hk2 : M.log2 + (E - lastP M E).toNat = 52 := by unfold lastP at hd hne ⊢; omega
      have : 2 ^ M.log2 * 2 ^ (E - lastP M E).toNat ≤ M * 2 ^ (E - lastP M E).toNat := Nat.mul_le_mul_right _ h1
      rw [← Nat.pow_add, hk2] at this
      exact this
  · rw [show (E - lastP M E).toNat = 0 by omega, Nat.pow_zero, Nat.mul_one]
    constructor
    · exact rne_le M _ 53 (Nat.lt_of_lt_of_le h2 (Nat.pow_le_pow_right (by omega) (by unfold lastP at hd ⊢; omega)))
    · intro hne
      exact rne_ge M _ 52 (Nat.le_trans (Nat.pow_le_pow_right (by omega) (by unfold lastP at hd hne ⊢; omega)) h1)
theorem bitLen_log (x : Nat) (h0 : x ≠ 0) (h : x < 2 ^ 64) : Lib.bitLen x = x.log2 + 1 := by
  induction x using Nat.strongRecOn with
  | _ x ih =>
    rw [Lib.bitLen_half x h0 h]
    by_cases h1 : x < 2
    · obtain rfl : x = 1 := by omega
      decide
    · rw [ih (x / 2) (by omega) (by omega) (by omega)]
      have : x.log2 = (x / 2).log2 + 1 := by
        rw [Nat.log2_def]; rw [if_pos (by omega)]
      omega
end Go.Proofs.Ytidhjpdcbmbicaa.CR
