/- The standard's numbers of 64 bits, read and written: plain lemmas. No condition beyond those typed. -/
import Derived.Test.YtidhjpdcbmbicaaCR
namespace Go.Proofs.Ytidhjpdcbmbicaa.CF
open Ieee Go.Proofs.Ytidhjpdcbmbicaa.CR

theorem log_shift (M k : Nat) (h : M ≠ 0) : (M * 2 ^ k).log2 = M.log2 + k := by
  have h1 := log_le h
  have h2 := lt_log M
  have hp : 0 < 2 ^ k := Nat.pow_pos (by omega)
  apply log_of
  · rw [Nat.pow_add]; exact Nat.mul_le_mul_right _ h1
  · rw [show M.log2 + k + 1 = M.log2 + 1 + k by omega, Nat.pow_add]; exact Nat.mul_lt_mul_of_pos_right h2 hp
theorem rne_scale (n k d : Nat) : rne (n * 2 ^ k) (d + k) = rne n d := by
  have hp : 0 < 2 ^ k := Nat.pow_pos (by omega)
  have hq : 0 < 2 ^ d := Nat.pow_pos (by omega)
  unfold rne
  have e1 : n * 2 ^ k / 2 ^ (d + k) = n / 2 ^ d := by rw [Nat.pow_add]; exact Nat.mul_div_mul_right _ _ hp
  have e2 : n * 2 ^ k % 2 ^ (d + k) = n % 2 ^ d * 2 ^ k := by rw [Nat.pow_add]; exact Nat.mul_mod_mul_right _ _ _
  have e3 : (2 : Nat) ^ (d + k) = 2 ^ d * 2 ^ k := Nat.pow_add ..
  rw [e1, e2, e3]
  have c1 : (2 ^ d * 2 ^ k < 2 * (n % 2 ^ d * 2 ^ k)) ↔ 2 ^ d < 2 * (n % 2 ^ d) := by
    rw [← Nat.mul_assoc]; exact Nat.mul_lt_mul_right hp
  have c2 : (2 ^ d * 2 ^ k = 2 * (n % 2 ^ d * 2 ^ k)) ↔ 2 ^ d = 2 * (n % 2 ^ d) := by
    rw [← Nat.mul_assoc]; exact Nat.mul_left_inj (by omega)
  simp only [c1, c2]
theorem rne_up (n k d : Nat) (h : d ≤ k) : rne (n * 2 ^ k) d = n * 2 ^ (k - d) := by
  have := rne_scale (n * 2 ^ (k - d)) d 0
  rw [Nat.mul_assoc, ← Nat.pow_add, show k - d + d = k by omega, Nat.zero_add, rne_zero] at this
  exact this
theorem near_scale (b : Bool) (M k : Nat) (E : Int) (h : M ≠ 0) : double.nearest b (M * 2 ^ k) (E - k) = double.nearest b M E := by
  have hp : 0 < 2 ^ k := Nat.pow_pos (by omega)
  have h' : M * 2 ^ k ≠ 0 := Nat.mul_ne_zero h (by omega)
  have hl : lastP (M * 2 ^ k) (E - k) = lastP M E := by unfold lastP; rw [log_shift M k h]; omega
  rw [near_eq b _ _ h', near_eq b M E h, hl]
  congr 1
  generalize lastP M E = last
  by_cases h1 : last ≤ E - k
  · rw [show (last - (E - k)).toNat = 0 by omega, show (last - E).toNat = 0 by omega, rne_zero, rne_zero, Nat.mul_assoc, ← Nat.pow_add, show k + (E - k - last).toNat = (E - last).toNat by omega]
  · rw [show (E - k - last).toNat = 0 by omega, Nat.pow_zero, Nat.mul_one]
    by_cases h2 : last ≤ E
    · rw [show (last - E).toNat = 0 by omega, rne_zero, rne_up _ _ _ (by omega), show k - (last - (E - k)).toNat = (E - last).toNat by omega]
    · rw [show (E - last).toNat = 0 by omega, Nat.pow_zero, Nat.mul_one, show (last - (E - k)).toNat = (last - E).toNat + k by omega, rne_scale]
theorem rne_stk (M k t d : Nat) (ht : t < 2 ^ k) (h0 : t ≠ 0) (hd : 1 ≤ d) : rne (M * 2 ^ k + t) (d + k) = rneS M d := by
  obtain ⟨c, rfl⟩ : ∃ c, d = c + 1 := ⟨d - 1, by omega⟩
  have hp : 0 < 2 ^ k := Nat.pow_pos (by omega)
  have hc : 0 < 2 ^ c := Nat.pow_pos (by omega)
  unfold rne rneS
  have e3 : (2 : Nat) ^ (c + 1 + k) = 2 ^ (c + 1) * 2 ^ k := Nat.pow_add ..
  have e4 : (2 : Nat) ^ (c + 1) = 2 * 2 ^ c := by rw [Nat.pow_succ, Nat.mul_comm]
  have e0 : (M * 2 ^ k + t) / 2 ^ k = M := by
    rw [Nat.mul_comm, Nat.mul_add_div hp, Nat.div_eq_of_lt ht, Nat.add_zero]
  have e1 : (M * 2 ^ k + t) / 2 ^ (c + 1 + k) = M / 2 ^ (c + 1) := by
    rw [e3, Nat.mul_comm (2 ^ (c + 1)), ← Nat.div_div_eq_div_mul, e0]
  have e2 : (M * 2 ^ k + t) % 2 ^ (c + 1 + k) = M % 2 ^ (c + 1) * 2 ^ k + t := by
    have q1 := Nat.div_add_mod (M * 2 ^ k + t) (2 ^ (c + 1 + k))
    have q2 := Nat.div_add_mod M (2 ^ (c + 1))
    rw [e1, e3] at q1
    have q3 : M * 2 ^ k = 2 ^ (c + 1) * (M / 2 ^ (c + 1)) * 2 ^ k + M % 2 ^ (c + 1) * 2 ^ k := by rw [← Nat.add_mul, q2]
    have q4 : 2 ^ (c + 1) * (M / 2 ^ (c + 1)) * 2 ^ k = 2 ^ (c + 1) * 2 ^ k * (M / 2 ^ (c + 1)) := by rw [Nat.mul_assoc, Nat.mul_assoc, Nat.mul_comm (M / 2 ^ (c + 1))]
    rw [e3]
    omega
  rw [e1, e2, e3]
  generalize M % 2 ^ (c + 1) = r at *
  generalize M / 2 ^ (c + 1) = q at *
  congr 1
  rw [e4]
  generalize 2 ^ c = P at *
  generalize 2 ^ k = K at *
  by_cases h : 2 * P ≤ 2 * r
  · have : P * K ≤ r * K := Nat.mul_le_mul_right K (by omega)
    have h2 : 2 * P * K < 2 * (r * K + t) := by rw [Nat.mul_assoc]; omega
    rw [if_pos h, if_pos (.inl h2)]
  · have : (r + 1) * K ≤ P * K := Nat.mul_le_mul_right K (by omega)
    rw [Nat.add_mul] at this
    have h2 : ¬ (2 * P * K < 2 * (r * K + t) ∨ (2 * P * K = 2 * (r * K + t) ∧ q % 2 = 1)) := by rw [Nat.mul_assoc]; omega
    rw [if_neg h, if_neg h2]
theorem log_stk (M k t : Nat) (h : M ≠ 0) (ht : t < 2 ^ k) : (M * 2 ^ k + t).log2 = M.log2 + k := by
  have h1 := log_le h
  have h2 := lt_log M
  have hp : 0 < 2 ^ k := Nat.pow_pos (by omega)
  apply log_of
  · rw [Nat.pow_add]; exact Nat.le_trans (Nat.mul_le_mul_right _ h1) (by omega)
  · rw [show M.log2 + k + 1 = M.log2 + 1 + k by omega, Nat.pow_add]
    have : (M + 1) * 2 ^ k ≤ 2 ^ (M.log2 + 1) * 2 ^ k := Nat.mul_le_mul_right _ h2
    rw [Nat.add_mul] at this
    omega
theorem lastP_some (M : Nat) (E : Int) (h : 9007199254740992 ≤ M) : E + 1 ≤ lastP M E := by
  have := log_ge (n := M) (k := 53) h
  unfold lastP; omega
/-- What is just above a number of 54 figures at least is rounded alike, whatever is above. -/
theorem near_sticky (b : Bool) (M k t : Nat) (E : Int) (hM : 9007199254740992 ≤ M) (ht : t < 2 ^ k) (h0 : t ≠ 0) : double.nearest b (M * 2 ^ k + t) (E - k) = double.nearest b (2 * M + 1) (E - 1) := by
  have hn : M ≠ 0 := by omega
  have h4 := lastP_some M E hM
  have e1 : lastP (M * 2 ^ k + t) (E - k) = lastP M E := by unfold lastP; rw [log_stk M k t hn ht]; omega
  have e2 : lastP (2 * M + 1) (E - 1) = lastP M E := by unfold lastP; rw [log_two M hn]; omega
  have hp : 0 < 2 ^ k := Nat.pow_pos (by omega)
  rw [near_down b _ _ (by omega) (by omega), near_down b _ _ (by omega) (by omega), e1, e2, show (lastP M E - (E - k)).toNat = (lastP M E - E).toNat + k by omega, show (lastP M E - (E - 1)).toNat = (lastP M E - E).toNat + 1 by omega, rne_two _ _ (by omega), rne_stk M k t _ ht h0 (by omega)]
/-- A number, what is above its places told by whether there is any. -/
theorem near_form (b : Bool) (M k t : Nat) (E : Int) (ht : t < 2 ^ k) (hM : t ≠ 0 → 9007199254740992 ≤ M) (h0 : M ≠ 0) : double.nearest b (M * 2 ^ k + t) (E - k) = nearS b M E (decide (t ≠ 0)) := by
  unfold nearS
  by_cases h : t = 0
  · subst h; rw [decide_eq_false (by simp), Nat.add_zero]; simp only [Bool.false_eq_true, if_false]; exact near_scale b M k E h0
  · rw [decide_eq_true h, if_pos rfl]; exact near_sticky b M k t E (hM h) ht h
end Go.Proofs.Ytidhjpdcbmbicaa.CF
