/- Small plain lemmas on whole numbers, bits, bytes and texts that this seat's pure statements use. No conditions beyond those typed. -/
import Derived.Test.YtkjpelgdppmbjaaGreatDoorVEMore
import Derived.Test.YtkjpelgdppmbjaaGreatDoorVENEv
import Ieee.Arith
import Derived.Lib.BitFns
import Derived.KernelRfl
namespace Go.Proofs.YtkjpelgdppmbjaaGreatDoor.CB
open Go.RowKit Go.Proofs.YtkjpelgdppmbjaaGreatDoorW.PrintWords Go.Proofs.YtkjpelgdppmbjaaGreatDoorW.PrintLast

theorem w64 {x : Int} (h : -9223372036854775808 ≤ x) (h2 : x < 9223372036854775808) : wrap64 x = x := by
 unfold wrap64; omega
theorem w64s {x : Nat} (h : x < 9223372036854775807) : wrap64 ((x : Int) + 1) = ((x + 1 : Nat) : Int) := by rw [w64 (by omega) (by omega)]; rfl
theorem wu64 (n : Int) : IntKind.u64.wrap n = n % 18446744073709551616 := by simp [IntKind.wrap, IntKind.bits, IntKind.signed]
theorem and_u64 (a b : Nat) (ha : a < 18446744073709551616) (hb : b < 18446744073709551616) : Go.bits .and .u64 (a : Int) (b : Int) = ((a &&& b : Nat) : Int) := by
 have hlt : a &&& b < 18446744073709551616 := Nat.lt_of_le_of_lt Nat.and_le_left ha
 simp only [Go.bits, wu64]
 show (((BitVec.ofInt 64 (a : Int) &&& BitVec.ofInt 64 (b : Int)).toNat : Int)) % _ = _
 rw [BitVec.ofInt_natCast, BitVec.ofInt_natCast, BitVec.toNat_and, BitVec.toNat_ofNat, BitVec.toNat_ofNat, Nat.mod_eq_of_lt ha, Nat.mod_eq_of_lt hb]
 omega
theorem or_u64 (a b : Nat) (ha : a < 18446744073709551616) (hb : b < 18446744073709551616) : Go.bits .or .u64 (a : Int) (b : Int) = ((a ||| b : Nat) : Int) := by
 have hlt : a ||| b < 2 ^ 64 := Nat.or_lt_two_pow (n := 64) (by omega) (by omega)
 simp only [Go.bits, wu64]
 show (((BitVec.ofInt 64 (a : Int) ||| BitVec.ofInt 64 (b : Int)).toNat : Int)) % _ = _
 rw [BitVec.ofInt_natCast, BitVec.ofInt_natCast, BitVec.toNat_or, BitVec.toNat_ofNat, BitVec.toNat_ofNat, Nat.mod_eq_of_lt ha, Nat.mod_eq_of_lt hb]
 omega
theorem wi64 (n : Int) : IntKind.i64.wrap n = wrap64 n := by rw [IntKind.wrap_i64]; unfold wrap64; rfl
theorem and_i64 (a b : Nat) (ha : a < 9223372036854775808) (hb : b < 9223372036854775808) : Go.bits .and .i64 (a : Int) (b : Int) = ((a &&& b : Nat) : Int) := by
 have hlt : a &&& b < 9223372036854775808 := Nat.lt_of_le_of_lt Nat.and_le_left ha
 simp only [Go.bits, wi64]
 show wrap64 (((BitVec.ofInt 64 (a : Int) &&& BitVec.ofInt 64 (b : Int)).toNat : Int)) = _
 rw [BitVec.ofInt_natCast, BitVec.ofInt_natCast, BitVec.toNat_and, BitVec.toNat_ofNat, BitVec.toNat_ofNat, Nat.mod_eq_of_lt (by omega), Nat.mod_eq_of_lt (by omega), w64 (by omega) (by omega)]
theorem mask (a n : Nat) : a &&& (2 ^ n - 1) = a % 2 ^ n := Nat.and_two_pow_sub_one_eq_mod a n
theorem join (a b n : Nat) (hb : b < 2 ^ n) : (2 ^ n * a) ||| b = 2 ^ n * a + b := (Nat.two_pow_add_eq_or_of_lt hb a).symm
theorem tdivN {a : Int} {b : Int} (ha : 0 ≤ a) : Int.tdiv a b = a / b := Int.tdiv_eq_ediv_of_nonneg ha
theorem tmodN {a : Int} {b : Int} (ha : 0 ≤ a) : Int.tmod a b = a % b := Int.tmod_eq_emod_of_nonneg ha

theorem bt_list (s : ByteArray) (i : Nat) (h : i < s.size) : bt s i = ((s.data.toList[i]'(by simpa using h)).toNat : Int) := by
 unfold bt
 have h1 : (i : Int).toNat < s.size := by omega
 rw [dif_pos h1]
 simp only [Int.toNat_natCast, Array.getElem_toList]
 rfl
theorem str_size (l : List Int) : (strOfNums l).size = l.length := by simp [strOfNums, ByteArray.size]
theorem and63 (x : Nat) (h : x < 18446744073709551616) : Go.bits .and .u64 (x : Int) 9223372036854775807 = ((x % 9223372036854775808 : Nat) : Int) := by
 have h1 := and_u64 x 9223372036854775807 h (by omega)
 have h2 : x &&& 9223372036854775807 = x % 9223372036854775808 := mask x 63
 rw [← h2]; exact h1

end Go.Proofs.YtkjpelgdppmbjaaGreatDoor.CB
namespace Go.Proofs.YtkjpelgdppmbjaaGreatDoor.CR
open Ieee

def rne (n d : Nat) : Nat := n / 2 ^ d + if 2 ^ d < 2 * (n % 2 ^ d) ∨ (2 ^ d = 2 * (n % 2 ^ d) ∧ n / 2 ^ d % 2 = 1) then 1 else 0
def rneS (n d : Nat) : Nat := n / 2 ^ d + if 2 ^ d ≤ 2 * (n % 2 ^ d) then 1 else 0
theorem rne_zero (n : Nat) : rne n 0 = n := by
 unfold rne
 rw [Nat.pow_zero, Nat.mod_one, Nat.div_one, if_neg (by omega)]; rfl
theorem lt_log (n : Nat) : n < 2 ^ (n.log2 + 1) := Nat.lt_log2_self
theorem log_le {n : Nat} (h : n ≠ 0) : 2 ^ n.log2 ≤ n := Nat.log2_self_le h
theorem log_of {n k : Nat} (h0 : 2 ^ k ≤ n) (h1 : n < 2 ^ (k + 1)) : n.log2 = k := by
 have hn : n ≠ 0 := by have : 0 < 2 ^ k := Nat.pow_pos (by omega); omega
 exact (Nat.log2_eq_iff hn).2 ⟨h0, h1⟩
theorem log_mono {n k : Nat} (h : n < 2 ^ k) (hn : n ≠ 0) : n.log2 < k := (Nat.log2_lt hn).2 h
theorem log_ge {n k : Nat} (h : 2 ^ k ≤ n) : k ≤ n.log2 := by
 have hn : n ≠ 0 := by have : 0 < 2 ^ k := Nat.pow_pos (by omega); omega
 exact (Nat.le_log2 hn).2 h
theorem cut_even (b : Bool) (n d : Nat) : Toward.even.cut b n d = rne n d := by
 unfold Toward.cut rne
 simp only [Nat.one_shiftLeft]
 have hl := lt_log n
 by_cases h : d ≤ n.log2 + 2
 ·rw [Nat.min_eq_left h]
  congr 1
  by_cases h1 : 2 ^ d < 2 * (n % 2 ^ d)
  ·simp [h1]
  ·by_cases h2 : 2 ^ d = 2 * (n % 2 ^ d)
   ·by_cases h3 : n / 2 ^ d % 2 = 1
    ·rw [if_pos (.inr ⟨h2, h3⟩)]; simp [h3, ← h2]
    ·rw [if_neg (by omega)]; simp [h3, h1]
   ·rw [if_neg (by omega)]; simp [h1, h2]
 ·rw [Nat.min_eq_right (by omega)]
  have hp : (2 : Nat) ^ (n.log2 + 2) = 2 * 2 ^ (n.log2 + 1) := by rw [Nat.pow_succ 2 (n.log2 + 1)]; omega
  have hq : 2 ^ (n.log2 + 2) ≤ 2 ^ d := Nat.pow_le_pow_right (by omega) (by omega)
  generalize 2 ^ (n.log2 + 2) = p at *
  generalize 2 ^ (n.log2 + 1) = q at *
  generalize 2 ^ d = r at *
  rw [Nat.div_eq_of_lt (show n < p by omega), Nat.mod_eq_of_lt (show n < p by omega), Nat.div_eq_of_lt (show n < r by omega), Nat.mod_eq_of_lt (show n < r by omega), if_neg (by omega)]
  have e1 : decide (p < 2 * n) = false := decide_eq_false (by omega)
  simp [e1]
def lastP (M : Nat) (E : Int) : Int := max (E + M.log2 - 52) (-1074)
def enc (b : Bool) (r : Nat) : Nat := if b then 9223372036854775808 + r else r
def packN (b : Bool) (last : Int) (kept : Nat) : Nat := enc b (min ((last + 1074).toNat * 4503599627370496 + kept) 9218868437227405312)
theorem near_eq (b : Bool) (M : Nat) (E : Int) (h : M ≠ 0) : double.nearest b M E = packN b (lastP M E) (rne (M * 2 ^ (E - lastP M E).toNat) (lastP M E - E).toNat) := by
 unfold Format.nearest
 rw [if_neg h]
 simp only [cut_even, Nat.shiftLeft_eq]
 rfl
theorem near_zero (b : Bool) (E : Int) : double.nearest b 0 E = enc b 0 := by
 unfold Format.nearest
 rw [if_pos rfl]
 rfl
theorem near_down (b : Bool) (M : Nat) (E : Int) (h : M ≠ 0) (hl : E ≤ lastP M E) : double.nearest b M E = packN b (lastP M E) (rne M (lastP M E - E).toNat) := by
 rw [near_eq b M E h, show (E - lastP M E).toNat = 0 by omega, Nat.pow_zero, Nat.mul_one]
theorem near_up (b : Bool) (M : Nat) (E : Int) (h : M ≠ 0) (hl : lastP M E ≤ E) : double.nearest b M E = packN b (lastP M E) (M * 2 ^ (E - lastP M E).toNat) := by
 rw [near_eq b M E h, show (lastP M E - E).toNat = 0 by omega, rne_zero]
theorem rne_two (n d : Nat) (hd : 1 ≤ d) : rne (2 * n + 1) (d + 1) = rneS n d := by
 unfold rne rneS
 obtain ⟨c, rfl⟩ : ∃ c, d = c + 1 := ⟨d - 1, by omega⟩
 have e1 : (2 : Nat) ^ (c + 1 + 1) = 2 * 2 ^ (c + 1) := by rw [Nat.pow_succ 2 (c + 1)]; omega
 have e2 : (2 : Nat) ^ (c + 1) = 2 * 2 ^ c := by rw [Nat.pow_succ 2 c]; omega
 have hp : 0 < 2 ^ c := Nat.pow_pos (by omega)
 have q1 : (2 * n + 1) / 2 ^ (c + 1 + 1) = n / 2 ^ (c + 1) := by
  rw [e1, ← Nat.div_div_eq_div_mul, show (2 * n + 1) / 2 = n by omega]
 have q2 : (2 * n + 1) % 2 ^ (c + 1 + 1) = 2 * (n % 2 ^ (c + 1)) + 1 := by
  have h1 := Nat.div_add_mod (2 * n + 1) (2 ^ (c + 1 + 1))
  have h2 := Nat.div_add_mod n (2 ^ (c + 1))
  rw [q1, e1, Nat.mul_assoc] at h1
  rw [e1]
  omega
 rw [q1, q2]
 generalize n / 2 ^ (c + 1) = u
 generalize n % 2 ^ (c + 1) = v
 rw [e1, e2]
 generalize 2 ^ c = w at *
 congr 1
 by_cases h : 2 * w ≤ 2 * v
 ·rw [if_pos h, if_pos (.inl (by omega))]
 ·rw [if_neg h, if_neg (by omega)]
theorem log_two (M : Nat) (h : M ≠ 0) : (2 * M + 1).log2 = M.log2 + 1 := by
 have h1 := log_le h
 have h2 := lt_log M
 apply log_of
 ·rw [Nat.pow_succ]; omega
 ·rw [Nat.pow_succ]; omega
def nearS (b : Bool) (M : Nat) (E : Int) (st : Bool) : Nat := if st then double.nearest b (2 * M + 1) (E - 1) else double.nearest b M E
theorem lastP_big (M : Nat) (E : Int) (h : 72057594037927936 ≤ M) : E + 4 ≤ lastP M E := by
 have := log_ge (n := M) (k := 56) h
 unfold lastP; omega
theorem near_st (b : Bool) (M : Nat) (E : Int) (h : 72057594037927936 ≤ M) : nearS b M E true = packN b (lastP M E) (rneS M (lastP M E - E).toNat) := by
 have h4 := lastP_big M E h
 have e : lastP (2 * M + 1) (E - 1) = lastP M E := by unfold lastP; rw [log_two M (by omega)]; omega
 unfold nearS
 rw [if_pos rfl, near_down b _ _ (by omega) (by omega), e, show (lastP M E - (E - 1)).toNat = (lastP M E - E).toNat + 1 by omega, rne_two _ _ (by omega)]
theorem rne_le (n d k : Nat) (h : n < 2 ^ (k + d)) : rne n d ≤ 2 ^ k := by
 have h1 : n / 2 ^ d < 2 ^ k := Nat.div_lt_of_lt_mul (by rw [← Nat.pow_add, Nat.add_comm]; exact h)
 unfold rne
 split <;> omega
theorem rne_ge (n d k : Nat) (h : 2 ^ (k + d) ≤ n) : 2 ^ k ≤ rne n d := by
 have h1 : 2 ^ k ≤ n / 2 ^ d := (Nat.le_div_iff_mul_le (Nat.pow_pos (by omega))).2 (by rw [← Nat.pow_add]; exact h)
 unfold rne
 omega
theorem kept_range (M : Nat) (E : Int) (h : M ≠ 0) :
  rne (M * 2 ^ (E - lastP M E).toNat) (lastP M E - E).toNat ≤ 9007199254740992 ∧ (lastP M E ≠ -1074 → 4503599627370496 ≤ rne (M * 2 ^ (E - lastP M E).toNat) (lastP M E - E).toNat) := by
 have h1 := log_le h
 have h2 := lt_log M
 by_cases hd : lastP M E ≤ E
 ·rw [show (lastP M E - E).toNat = 0 by omega, rne_zero]
  have hk : M.log2 + (E - lastP M E).toNat ≤ 52 := by unfold lastP at hd ⊢; omega
  constructor
  ·have : M * 2 ^ (E - lastP M E).toNat < 2 ^ (M.log2 + 1) * 2 ^ (E - lastP M E).toNat := Nat.mul_lt_mul_of_pos_right h2 (Nat.pow_pos (by omega))
   rw [← Nat.pow_add] at this
   exact Nat.le_of_lt (Nat.lt_of_lt_of_le this (Nat.pow_le_pow_right (n := 2) (by omega) (show M.log2 + 1 + (E - lastP M E).toNat ≤ 53 by omega)))
  ·intro hne
   have hk2 : M.log2 + (E - lastP M E).toNat = 52 := by unfold lastP at hd hne ⊢; omega
   have : 2 ^ M.log2 * 2 ^ (E - lastP M E).toNat ≤ M * 2 ^ (E - lastP M E).toNat := Nat.mul_le_mul_right _ h1
   rw [← Nat.pow_add, hk2] at this
   exact this
 ·rw [show (E - lastP M E).toNat = 0 by omega, Nat.pow_zero, Nat.mul_one]
  constructor
  ·exact rne_le M _ 53 (Nat.lt_of_lt_of_le h2 (Nat.pow_le_pow_right (by omega) (by unfold lastP at hd ⊢; omega)))
  ·intro hne
   exact rne_ge M _ 52 (Nat.le_trans (Nat.pow_le_pow_right (by omega) (by unfold lastP at hd hne ⊢; omega)) h1)
end Go.Proofs.YtkjpelgdppmbjaaGreatDoor.CR
namespace Go.Proofs.YtkjpelgdppmbjaaGreatDoor.CF
open Ieee Go.Proofs.YtkjpelgdppmbjaaGreatDoor.CR

theorem log_shift (M k : Nat) (h : M ≠ 0) : (M * 2 ^ k).log2 = M.log2 + k := by
 have h1 := log_le h
 have h2 := lt_log M
 have hp : 0 < 2 ^ k := Nat.pow_pos (by omega)
 apply log_of
 ·rw [Nat.pow_add]; exact Nat.mul_le_mul_right _ h1
 ·rw [show M.log2 + k + 1 = M.log2 + 1 + k by omega, Nat.pow_add]; exact Nat.mul_lt_mul_of_pos_right h2 hp
theorem rne_scale (n k d : Nat) : rne (n * 2 ^ k) (d + k) = rne n d := by
 have hp : 0 < 2 ^ k := Nat.pow_pos (by omega)
 have hq : 0 < 2 ^ d := Nat.pow_pos (by omega)
 unfold rne
 have e1 : n * 2 ^ k / 2 ^ (d + k) = n / 2 ^ d := by rw [Nat.pow_add]; exact Nat.mul_div_mul_right _ _ hp
 have e2 : n * 2 ^ k % 2 ^ (d + k) = n % 2 ^ d * 2 ^ k := by rw [Nat.pow_add]; exact Nat.mul_mod_mul_right _ _ _
 have e3 : (2 : Nat) ^ (d + k) = 2 ^ d * 2 ^ k := Nat.pow_add ..
 rw [e1, e2, e3]
 have c1 : (2 ^ d * 2 ^ k < 2 * (n % 2 ^ d * 2 ^ k)) ↔ 2 ^ d < 2 * (n % 2 ^ d) := by
  rw [← Nat.mul_assoc]; exact Nat.mul_lt_mul_right hp
 have c2 : (2 ^ d * 2 ^ k = 2 * (n % 2 ^ d * 2 ^ k)) ↔ 2 ^ d = 2 * (n % 2 ^ d) := by
  rw [← Nat.mul_assoc]; exact Nat.mul_left_inj (by omega)
 simp only [c1, c2]
theorem rne_up (n k d : Nat) (h : d ≤ k) : rne (n * 2 ^ k) d = n * 2 ^ (k - d) := by
 have := rne_scale (n * 2 ^ (k - d)) d 0
 rw [Nat.mul_assoc, ← Nat.pow_add, show k - d + d = k by omega, Nat.zero_add, rne_zero] at this
 exact this
theorem near_scale (b : Bool) (M k : Nat) (E : Int) (h : M ≠ 0) : double.nearest b (M * 2 ^ k) (E - k) = double.nearest b M E := by
 have hp : 0 < 2 ^ k := Nat.pow_pos (by omega)
 have h' : M * 2 ^ k ≠ 0 := Nat.mul_ne_zero h (by omega)
 have hl : lastP (M * 2 ^ k) (E - k) = lastP M E := by unfold lastP; rw [log_shift M k h]; omega
 rw [near_eq b _ _ h', near_eq b M E h, hl]
 congr 1
 generalize lastP M E = last
 by_cases h1 : last ≤ E - k
 ·rw [show (last - (E - k)).toNat = 0 by omega, show (last - E).toNat = 0 by omega, rne_zero, rne_zero, Nat.mul_assoc, ← Nat.pow_add, show k + (E - k - last).toNat = (E - last).toNat by omega]
 ·rw [show (E - k - last).toNat = 0 by omega, Nat.pow_zero, Nat.mul_one]
  by_cases h2 : last ≤ E
  ·rw [show (last - E).toNat = 0 by omega, rne_zero, rne_up _ _ _ (by omega), show k - (last - (E - k)).toNat = (E - last).toNat by omega]
  ·rw [show (E - last).toNat = 0 by omega, Nat.pow_zero, Nat.mul_one, show (last - (E - k)).toNat = (last - E).toNat + k by omega, rne_scale]
theorem rne_stk (M k t d : Nat) (ht : t < 2 ^ k) (h0 : t ≠ 0) (hd : 1 ≤ d) : rne (M * 2 ^ k + t) (d + k) = rneS M d := by
 obtain ⟨c, rfl⟩ : ∃ c, d = c + 1 := ⟨d - 1, by omega⟩
 have hp : 0 < 2 ^ k := Nat.pow_pos (by omega)
 have hc : 0 < 2 ^ c := Nat.pow_pos (by omega)
 unfold rne rneS
 have e3 : (2 : Nat) ^ (c + 1 + k) = 2 ^ (c + 1) * 2 ^ k := Nat.pow_add ..
 have e4 : (2 : Nat) ^ (c + 1) = 2 * 2 ^ c := by rw [Nat.pow_succ, Nat.mul_comm]
 have e0 : (M * 2 ^ k + t) / 2 ^ k = M := by
  rw [Nat.mul_comm, Nat.mul_add_div hp, Nat.div_eq_of_lt ht, Nat.add_zero]
 have e1 : (M * 2 ^ k + t) / 2 ^ (c + 1 + k) = M / 2 ^ (c + 1) := by
  rw [e3, Nat.mul_comm (2 ^ (c + 1)), ← Nat.div_div_eq_div_mul, e0]
 have e2 : (M * 2 ^ k + t) % 2 ^ (c + 1 + k) = M % 2 ^ (c + 1) * 2 ^ k + t := by
  have q1 := Nat.div_add_mod (M * 2 ^ k + t) (2 ^ (c + 1 + k))
  have q2 := Nat.div_add_mod M (2 ^ (c + 1))
  rw [e1, e3] at q1
  have q3 : M * 2 ^ k = 2 ^ (c + 1) * (M / 2 ^ (c + 1)) * 2 ^ k + M % 2 ^ (c + 1) * 2 ^ k := by rw [← Nat.add_mul, q2]
  have q4 : 2 ^ (c + 1) * (M / 2 ^ (c + 1)) * 2 ^ k = 2 ^ (c + 1) * 2 ^ k * (M / 2 ^ (c + 1)) := by rw [Nat.mul_assoc, Nat.mul_assoc, Nat.mul_comm (M / 2 ^ (c + 1))]
  rw [e3]
  omega
 rw [e1, e2, e3]
 generalize M % 2 ^ (c + 1) = r at *
 generalize M / 2 ^ (c + 1) = q at *
 congr 1
 rw [e4]
 generalize 2 ^ c = P at *
 generalize 2 ^ k = K at *
 by_cases h : 2 * P ≤ 2 * r
 ·have : P * K ≤ r * K := Nat.mul_le_mul_right K (by omega)
  have h2 : 2 * P * K < 2 * (r * K + t) := by rw [Nat.mul_assoc]; omega
  rw [if_pos h, if_pos (.inl h2)]
 ·have : (r + 1) * K ≤ P * K := Nat.mul_le_mul_right K (by omega)
  rw [Nat.add_mul] at this
  have h2 : ¬ (2 * P * K < 2 * (r * K + t) ∨ (2 * P * K = 2 * (r * K + t) ∧ q % 2 = 1)) := by rw [Nat.mul_assoc]; omega
  rw [if_neg h, if_neg h2]
theorem log_stk (M k t : Nat) (h : M ≠ 0) (ht : t < 2 ^ k) : (M * 2 ^ k + t).log2 = M.log2 + k := by
 have h1 := log_le h
 have h2 := lt_log M
 have hp : 0 < 2 ^ k := Nat.pow_pos (by omega)
 apply log_of
 ·rw [Nat.pow_add]; exact Nat.le_trans (Nat.mul_le_mul_right _ h1) (by omega)
 ·rw [show M.log2 + k + 1 = M.log2 + 1 + k by omega, Nat.pow_add]
  have : (M + 1) * 2 ^ k ≤ 2 ^ (M.log2 + 1) * 2 ^ k := Nat.mul_le_mul_right _ h2
  rw [Nat.add_mul] at this
  omega
theorem lastP_some (M : Nat) (E : Int) (h : 9007199254740992 ≤ M) : E + 1 ≤ lastP M E := by
 have := log_ge (n := M) (k := 53) h
 unfold lastP; omega
theorem near_sticky (b : Bool) (M k t : Nat) (E : Int) (hM : 9007199254740992 ≤ M) (ht : t < 2 ^ k) (h0 : t ≠ 0) : double.nearest b (M * 2 ^ k + t) (E - k) = double.nearest b (2 * M + 1) (E - 1) := by
 have hn : M ≠ 0 := by omega
 have h4 := lastP_some M E hM
 have e1 : lastP (M * 2 ^ k + t) (E - k) = lastP M E := by unfold lastP; rw [log_stk M k t hn ht]; omega
 have e2 : lastP (2 * M + 1) (E - 1) = lastP M E := by unfold lastP; rw [log_two M hn]; omega
 have hp : 0 < 2 ^ k := Nat.pow_pos (by omega)
 rw [near_down b _ _ (by omega) (by omega), near_down b _ _ (by omega) (by omega), e1, e2, show (lastP M E - (E - k)).toNat = (lastP M E - E).toNat + k by omega, show (lastP M E - (E - 1)).toNat = (lastP M E - E).toNat + 1 by omega, rne_two _ _ (by omega), rne_stk M k t _ ht h0 (by omega)]
end Go.Proofs.YtkjpelgdppmbjaaGreatDoor.CF
namespace Go.Proofs.YtkjpelgdppmbjaaGreatDoor.CG
open Ieee Go.Proofs.YtkjpelgdppmbjaaGreatDoor.CR Go.Proofs.YtkjpelgdppmbjaaGreatDoor.CF

def sgn (x : Nat) : Bool := decide (9223372036854775808 ≤ x)
theorem read_def (x : Nat) (hx : x < 18446744073709551616) : double.read x =
  if x % 9223372036854775808 < 4503599627370496 then .number (sgn x) (x % 9223372036854775808) (-1074)
  else if x % 9223372036854775808 < 9218868437227405312 then .number (sgn x) (4503599627370496 + x % 4503599627370496) (((x / 4503599627370496 % 2048 : Nat) : Int) - 1075)
  else if x % 9223372036854775808 = 9218868437227405312 then .infinity (sgn x) else .nan (sgn x) (x % 9223372036854775808 - 9218868437227405312) := by
 have e1 : double.signWeight = 9223372036854775808 := by decide
 have e2 : double.binade = 4503599627370496 := by decide
 have e3 : double.infRung = 9218868437227405312 := by decide
 have e4 : double.leastPlace = -1074 := by decide
 have e5 : (x / 9223372036854775808 % 2 == 1) = sgn x := by
  unfold sgn
  rw [Bool.eq_iff_iff]; simp; omega
 unfold Format.read
 simp only [e1, e2, e3, e4, e5]
 by_cases h1 : x % 9223372036854775808 < 4503599627370496
 ·rw [if_pos h1, if_pos h1]
 ·rw [if_neg h1, if_neg h1]
  by_cases h2 : x % 9223372036854775808 < 9218868437227405312
  ·rw [if_pos h2, if_pos h2, show x % 9223372036854775808 % 4503599627370496 = x % 4503599627370496 by omega]
   congr 1
   omega
  ·rw [if_neg h2, if_neg h2]
theorem read_num {x m : Nat} {b : Bool} {e : Int} (hx : x < 18446744073709551616) (h : double.read x = .number b m e) :
  b = sgn x ∧ m < 9007199254740992 ∧ -1074 ≤ e ∧ e ≤ 971 ∧ (e ≠ -1074 → 4503599627370496 ≤ m) ∧ x = enc b ((e + 1074).toNat * 4503599627370496 + m) ∧ (m = 0 → e = -1074) := by
 rw [read_def x hx] at h
 split at h
 ·injection h with h1 h2 h3
  subst h1 h2 h3
  refine ⟨rfl, by omega, by omega, by omega, fun h => absurd rfl h, ?_, fun _ => rfl⟩
  unfold enc sgn
  by_cases h : 9223372036854775808 ≤ x
  ·rw [decide_eq_true h, if_pos rfl]; omega
  ·rw [decide_eq_false h, if_neg (by simp)]; omega
 ·split at h
  ·injection h with h1 h2 h3
   subst h1 h2 h3
   refine ⟨rfl, by omega, by omega, by omega, fun _ => by omega, ?_, fun _ => by omega⟩
   unfold enc sgn
   by_cases h : 9223372036854775808 ≤ x
   ·rw [decide_eq_true h, if_pos rfl]; omega
   ·rw [decide_eq_false h, if_neg (by simp)]; omega
  ·split at h <;> cases h
theorem read_inf {x : Nat} {b : Bool} (hx : x < 18446744073709551616) (h : double.read x = .infinity b) : b = sgn x ∧ x = enc b 9218868437227405312 := by
 rw [read_def x hx] at h
 split at h
 ·cases h
 ·split at h
  ·cases h
  ·split at h
   ·injection h with h1
    subst h1
    refine ⟨rfl, ?_⟩
    unfold enc sgn
    by_cases h : 9223372036854775808 ≤ x
    ·rw [decide_eq_true h, if_pos rfl]; omega
    ·rw [decide_eq_false h, if_neg (by simp)]; omega
   ·cases h
theorem write_inf (b : Bool) : double.write (.infinity b) = enc b 9218868437227405312 := by
 unfold Format.write Format.word enc
 rfl
theorem lastP_self {m : Nat} {e : Int} (h0 : m ≠ 0) (hm : m < 9007199254740992) (he : -1074 ≤ e) (hn : e ≠ -1074 → 4503599627370496 ≤ m) : lastP m e = e := by
 have h1 : m.log2 < 53 := log_mono hm h0
 unfold lastP
 by_cases h : e = -1074
 ·subst h; omega
 ·have h2 := log_ge (n := m) (k := 52) (hn h)
  omega
theorem near_self {b : Bool} {m : Nat} {e : Int} (hm : m < 9007199254740992) (he : -1074 ≤ e) (he2 : e ≤ 971) (hn : e ≠ -1074 → 4503599627370496 ≤ m) (hz : m = 0 → e = -1074) : double.nearest b m e = enc b ((e + 1074).toNat * 4503599627370496 + m) := by
 by_cases h0 : m = 0
 ·obtain rfl := h0
  obtain rfl := hz rfl
  rw [near_zero]; rfl
 ·have hl := lastP_self h0 hm he hn
  rw [near_down b m e h0 (by omega), hl, Int.sub_self, show (0 : Int).toNat = 0 from rfl, rne_zero]
  unfold packN
  rw [Nat.min_eq_left (by omega)]
theorem near_read {x m : Nat} {b : Bool} {e : Int} (hx : x < 18446744073709551616) (h : double.read x = .number b m e) : double.nearest b m e = x := by
 obtain ⟨_, h2, h3, h4, h5, h6, h7⟩ := read_num hx h
 rw [near_self h2 h3 h4 h5 h7, ← h6]
def nanW : Nat := 9221120237041090560
def mulT (x y : Nat) : Nat := (double.mul x y).getD nanW
theorem mul_fin {x y m n : Nat} {s t : Bool} {i j : Int} (hx : double.read x = .number s m i) (hy : double.read y = .number t n j) : mulT x y = double.nearest (s ^^ t) (m * n) (i + j) := by
 unfold mulT Format.mul
 rw [hx, hy]
 rfl
def divT (x y : Nat) : Nat := (double.div x y).getD nanW
def quo (m n u : Nat) : Nat := 2 * (m * 2 ^ u / n) + (decide (m * 2 ^ u % n ≠ 0)).toNat
theorem quo_more (b : Bool) (m n u d : Nat) (E : Int) (hn : n ≠ 0) (hm : m ≠ 0) (hb : 9007199254740992 ≤ m * 2 ^ u / n) : double.nearest b (quo m n (u + d)) (E - (u + d : Nat) - 1) = double.nearest b (quo m n u) (E - u - 1) := by
 have hp : 0 < 2 ^ d := Nat.pow_pos (by omega)
 have e0 : m * 2 ^ (u + d) = m * 2 ^ u * 2 ^ d := by rw [Nat.pow_add, Nat.mul_assoc]
 unfold quo
 rw [e0]
 generalize m * 2 ^ u = A at *
 have hA := Nat.div_add_mod A n
 have hr := Nat.mod_lt A (show 0 < n by omega)
 generalize A / n = X at *
 generalize A % n = r at *
 have e1 : A * 2 ^ d = n * (X * 2 ^ d) + r * 2 ^ d := by rw [← hA, Nat.add_mul, Nat.mul_assoc]
 have e2 : A * 2 ^ d / n = X * 2 ^ d + r * 2 ^ d / n := by rw [e1, Nat.mul_add_div (by omega)]
 have e3 : A * 2 ^ d % n = r * 2 ^ d % n := by rw [e1, Nat.mul_add_mod]
 rw [e2, e3]
 by_cases h0 : r = 0
 ·subst h0
  rw [Nat.zero_mul, Nat.zero_div, Nat.zero_mod]
  simp only [ne_eq, not_true_eq_false, decide_false, Bool.toNat_false, Nat.add_zero]
  have := near_scale b (2 * X) d (E - u - 1) (by omega)
  rw [show E - u - 1 - (d : Int) = E - ((u + d : Nat) : Int) - 1 by omega, Nat.mul_assoc] at this
  exact this
 ·have hlt : r * 2 ^ d / n < 2 ^ d := by
   refine Nat.div_lt_of_lt_mul ?_
   exact Nat.mul_lt_mul_of_pos_right hr hp
  have ht0 : 2 * (r * 2 ^ d / n) + (decide (r * 2 ^ d % n ≠ 0)).toNat ≠ 0 := by
   by_cases h : r * 2 ^ d % n = 0
   ·have h1 := Nat.div_add_mod (r * 2 ^ d) n
    have h2 : 0 < r * 2 ^ d := Nat.mul_pos (by omega) hp
    have h3 : r * 2 ^ d / n ≠ 0 := by
     intro h3; rw [h3, h] at h1; omega
    omega
   ·rw [decide_eq_true h]; simp
  have ht1 : 2 * (r * 2 ^ d / n) + (decide (r * 2 ^ d % n ≠ 0)).toNat < 2 ^ (d + 1) := by
   have := Bool.toNat_le (decide (r * 2 ^ d % n ≠ 0))
   rw [Nat.pow_succ]
   omega
  have := near_sticky b X (d + 1) _ (E - u) hb ht1 ht0
  rw [show E - (u : Int) - ((d + 1 : Nat) : Int) = E - ((u + d : Nat) : Int) - 1 by omega] at this
  rw [decide_eq_true h0, Bool.toNat_true, ← this]
  congr 1
  rw [Nat.pow_succ, Nat.mul_add, Nat.mul_comm (2 ^ d) 2, Nat.mul_left_comm X 2]
  omega
theorem quo_any (b : Bool) (m n u v : Nat) (E : Int) (hn : n ≠ 0) (hm : m ≠ 0) (hu : 9007199254740992 ≤ m * 2 ^ u / n) (hv : 9007199254740992 ≤ m * 2 ^ v / n) : double.nearest b (quo m n u) (E - u - 1) = double.nearest b (quo m n v) (E - v - 1) := by
 rcases Nat.le_total u v with h | h
 ·obtain ⟨d, rfl⟩ := Nat.le.dest h
  exact (quo_more b m n u d E hn hm hu).symm
 ·obtain ⟨d, rfl⟩ := Nat.le.dest h
  exact quo_more b m n v d E hn hm hv
theorem quo_big (m n : Nat) (hn : n ≠ 0) (hm : m ≠ 0) : 9007199254740992 ≤ m * 2 ^ (54 + n.log2 - m.log2) / n := by
 have h1 := log_le hm
 have h2 := lt_log n
 rw [Nat.le_div_iff_mul_le (by omega)]
 have h3 : 2 ^ (m.log2 + (54 + n.log2 - m.log2)) ≤ m * 2 ^ (54 + n.log2 - m.log2) := by
  rw [Nat.pow_add]; exact Nat.mul_le_mul_right _ h1
 have h4 : (2 : Nat) ^ (53 + (n.log2 + 1)) ≤ 2 ^ (m.log2 + (54 + n.log2 - m.log2)) := Nat.pow_le_pow_right (by omega) (by omega)
 have h5 : (2 : Nat) ^ (53 + (n.log2 + 1)) = 9007199254740992 * 2 ^ (n.log2 + 1) := by rw [Nat.pow_add]
 have h6 : 9007199254740992 * n ≤ 9007199254740992 * 2 ^ (n.log2 + 1) := Nat.mul_le_mul_left _ (by omega)
 omega
theorem div_fin {x y m n : Nat} {s t : Bool} {i j : Int} (hx : double.read x = .number s m i) (hy : double.read y = .number t n j) (hn : n ≠ 0) (hm : m ≠ 0) (u : Nat) (hu : 9007199254740992 ≤ m * 2 ^ u / n) : divT x y = double.nearest (s ^^ t) (quo m n u) (i - j - u - 1) := by
 unfold divT Format.div
 rw [hx, hy]
 unfold Datum.quotient
 simp only [if_neg hn, Option.map_some, Option.getD_some, Nat.shiftLeft_eq]
 rw [← quo_any (s ^^ t) m n (54 + n.log2 - m.log2) u (i - j) hn hm (quo_big m n hn hm) hu]
 unfold Format.write quo
 simp only
 have e : double.fractionBits + 2 = 54 := rfl
 rw [e]
 congr 1
 rw [show (m * 2 ^ (54 + n.log2 - m.log2) % n != 0) = decide (m * 2 ^ (54 + n.log2 - m.log2) % n ≠ 0) by rw [Bool.eq_iff_iff]; simp]
theorem div_zero {x y n : Nat} {s t : Bool} {i j : Int} (hx : double.read x = .number s 0 i) (hy : double.read y = .number t n j) (hn : n ≠ 0) : divT x y = enc (s ^^ t) 0 := by
 unfold divT Format.div
 rw [hx, hy]
 unfold Datum.quotient
 simp only [if_neg hn, Option.map_some, Option.getD_some, Nat.zero_shiftLeft, Nat.zero_div, Nat.zero_mod]
 unfold Format.write
 simp only
 exact near_zero _ _
end Go.Proofs.YtkjpelgdppmbjaaGreatDoor.CG
namespace Go.Proofs.YtkjpelgdppmbjaaGreatDoor.CH
open Ieee Go.Proofs.YtkjpelgdppmbjaaGreatDoor.CR Go.Proofs.YtkjpelgdppmbjaaGreatDoor.CF Go.Proofs.YtkjpelgdppmbjaaGreatDoor.CG

def nanB (x : Nat) : Bool := decide (9218868437227405312 < x % 9223372036854775808)
theorem read_nan {x : Nat} (hx : x < 18446744073709551616) : (∃ s f, double.read x = .nan s f) ↔ nanB x = true := by
 unfold nanB
 rw [read_def x hx, decide_eq_true_iff]
 constructor
 ·rintro ⟨s, f, h⟩
  split at h
  ·cases h
  ·split at h
   ·cases h
   ·split at h
    ·cases h
    ·omega
 ·intro h
  rw [if_neg (by omega), if_neg (by omega), if_neg (by omega)]
  exact ⟨_, _, rfl⟩
theorem enc_notnan (b : Bool) (r : Nat) (hr : r ≤ 9218868437227405312) : nanB (enc b r) = false ∧ enc b r < 18446744073709551616 := by
 unfold nanB enc
 cases b
 ·simp only [Bool.false_eq_true, if_false]; exact ⟨decide_eq_false (by omega), by omega⟩
 ·simp only [if_true]; exact ⟨decide_eq_false (by omega), by omega⟩
theorem near_notnan (b : Bool) (m : Nat) (e : Int) : nanB (double.nearest b m e) = false ∧ double.nearest b m e < 18446744073709551616 := by
 by_cases h : m = 0
 ·subst h; rw [near_zero]; exact enc_notnan b 0 (by omega)
 ·rw [near_eq b m e h]; unfold packN; exact enc_notnan b _ (Nat.min_le_right ..)
theorem write_notnan (d : Datum) (h : d.isNaN = false) : nanB (double.write d) = false ∧ double.write d < 18446744073709551616 := by
 cases d with
 | nan => cases h
 | infinity b => rw [write_inf]; exact enc_notnan b _ (Nat.le_refl _)
 | number b m e => exact near_notnan b m e
theorem map_some {o : Option Datum} {r : Nat} (h : o.map double.write = some r) (hn : ∀ d, o = some d → d.isNaN = false) : nanB r = false ∧ r < 18446744073709551616 := by
  cases o with
  | none => cases h
  | some d => obtain rfl : double.write d = r := by simpa using h
              exact write_notnan d (hn d rfl)
end Go.Proofs.YtkjpelgdppmbjaaGreatDoor.CH
namespace Go.Proofs.YtkjpelgdppmbjaaGreatDoor.CN
open Ieee Go.Proofs.YtkjpelgdppmbjaaGreatDoor.CR Go.Proofs.YtkjpelgdppmbjaaGreatDoor.CF Go.Proofs.YtkjpelgdppmbjaaGreatDoor.CG Go.Proofs.YtkjpelgdppmbjaaGreatDoor.CH

theorem enc_mod (b : Bool) (r : Nat) (hr : r < 9223372036854775808) : enc b r % 9223372036854775808 = r ∧ sgn (enc b r) = b ∧ enc b r < 18446744073709551616 := by
 unfold enc sgn
 cases b
 ·simp only [Bool.false_eq_true, if_false]
  exact ⟨by omega, decide_eq_false (by omega), by omega⟩
 ·simp only [if_true]
  exact ⟨by omega, decide_eq_true (by omega), by omega⟩
theorem read_enc (b : Bool) (m : Nat) (e : Int) (hm : m < 9007199254740992) (he : -1074 ≤ e) (he2 : e ≤ 971) (hn : e ≠ -1074 → 4503599627370496 ≤ m) : double.read (enc b ((e + 1074).toNat * 4503599627370496 + m)) = .number b m e := by
 obtain ⟨h1, h2, h3⟩ := enc_mod b ((e + 1074).toNat * 4503599627370496 + m) (by omega)
 rw [read_def _ h3, h1, h2]
 have g4 : ∀ y r : Nat, y % 9223372036854775808 = r → y % 4503599627370496 = r % 4503599627370496 := by intro y r h; omega
 have g5 : ∀ y r : Nat, y % 9223372036854775808 = r → y / 4503599627370496 % 2048 = r / 4503599627370496 := by intro y r h; omega
 have h4 := g4 _ _ h1
 have h5 := g5 _ _ h1
 rw [h4, h5]
 clear h1 h2 h3 h4 h5 g4 g5
 by_cases h : (e + 1074).toNat * 4503599627370496 + m < 4503599627370496
 ·have he3 : e = -1074 := by
   rcases Classical.em (e = -1074) with h6 | h6
   ·exact h6
   ·have := hn h6; omega
  subst he3
  rw [if_pos h]
  congr 1
  omega
 ·rw [if_neg h, if_pos (by omega)]
  rcases Nat.lt_or_ge m 4503599627370496 with hs | hs
  ·have he3 : e = -1074 := by
    rcases Classical.em (e = -1074) with h6 | h6
    ·exact h6
    ·have := hn h6; omega
   subst he3
   omega
  ·congr 1 <;> omega
theorem read_one : double.read 4607182418800017408 = .number false 4503599627370496 (-52) := by decide
theorem mul_one (x : Nat) (hx : x < 18446744073709551616) (hn : nanB x = false) : mulT x 4607182418800017408 = x := by
 cases hr : double.read x with
 | nan s f => rw [(read_nan hx).1 ⟨s, f, hr⟩] at hn; cases hn
 | infinity s =>
  unfold mulT Format.mul
  rw [hr, read_one]
  unfold Datum.product
  simp only [if_neg (show ¬ (4503599627370496 : Nat) = 0 by omega), Option.map_some, Option.getD_some, Bool.xor_false]
  rw [write_inf, ← (read_inf hx hr).2]
 | number s m i =>
  rw [mul_fin hr read_one, Bool.xor_false]
  by_cases h : m = 0
  ·subst h
   rw [Nat.zero_mul, near_zero, ← near_read hx hr, near_zero]
  ·have := near_scale s m 52 i h
   rw [show i + -52 = i - ((52 : Nat) : Int) by omega, show (4503599627370496 : Nat) = 2 ^ 52 from rfl, this, near_read hx hr]
theorem div_one (x : Nat) (hx : x < 18446744073709551616) (hn : nanB x = false) : divT x 4607182418800017408 = x := by
 cases hr : double.read x with
 | nan s f => rw [(read_nan hx).1 ⟨s, f, hr⟩] at hn; cases hn
 | infinity s =>
  unfold divT Format.div
  rw [hr, read_one]
  unfold Datum.quotient
  simp only [Option.map_some, Option.getD_some, Bool.xor_false]
  rw [write_inf, ← (read_inf hx hr).2]
 | number s m i =>
  by_cases h : m = 0
  ·subst h
   rw [div_zero hr read_one (by omega), Bool.xor_false, ← near_read hx hr, near_zero]
  ·have e52 : (4503599627370496 : Nat) = 2 ^ 52 := rfl
   have hdiv : m * 2 ^ 105 / 4503599627370496 = m * 2 ^ 53 := by
    rw [e52, show (105 : Nat) = 53 + 52 from rfl, Nat.pow_add, ← Nat.mul_assoc]
    exact Nat.mul_div_cancel _ (Nat.pow_pos (by omega))
   have hmod : m * 2 ^ 105 % 4503599627370496 = 0 := by
    rw [e52, show (105 : Nat) = 53 + 52 from rfl, Nat.pow_add, ← Nat.mul_assoc]
    exact Nat.mul_mod_left _ _
   have hq : quo m 4503599627370496 105 = m * 2 ^ 54 := by
    unfold quo
    rw [hdiv, hmod, Nat.pow_succ 2 53]
    simp only [ne_eq, not_true_eq_false, decide_false, Bool.toNat_false]
    omega
   rw [div_fin hr read_one (by omega) h 105 (by rw [hdiv]; have : 1 * 2 ^ 53 ≤ m * 2 ^ 53 := Nat.mul_le_mul_right _ (by omega); exact this), hq, Bool.xor_false]
   have := near_scale s m 54 i h
   rw [show i - -52 - ((105 : Nat) : Int) - 1 = i - ((54 : Nat) : Int) by omega, this, near_read hx hr]
end Go.Proofs.YtkjpelgdppmbjaaGreatDoor.CN
namespace Go.Proofs.YtkjpelgdppmbjaaGreatDoor.CV
open Ieee Go.Proofs.YtkjpelgdppmbjaaGreatDoor.CR Go.Proofs.YtkjpelgdppmbjaaGreatDoor.CF Go.Proofs.YtkjpelgdppmbjaaGreatDoor.CG Go.Proofs.YtkjpelgdppmbjaaGreatDoor.CH Go.Proofs.YtkjpelgdppmbjaaGreatDoor.CN

end Go.Proofs.YtkjpelgdppmbjaaGreatDoor.CV
namespace Go.Proofs.YtkjpelgdppmbjaaGreatDoor.US
def lp (p : Int) : Int := p * 108853 / 32768
def U (p : Int) : Nat := 10 ^ p.toNat * 2 ^ (127 - lp p).toNat
def V (p : Int) : Nat := 2 ^ (lp p - 127).toNat * 10 ^ (-p).toNat
def pm (p : Int) : Nat := (U p + V p - 1) / V p
end Go.Proofs.YtkjpelgdppmbjaaGreatDoor.US
namespace Go.Proofs.YtkjpelgdppmbjaaGreatDoor.CQ
open Ieee Go.Proofs.YtkjpelgdppmbjaaGreatDoor.CR Go.Proofs.YtkjpelgdppmbjaaGreatDoor.CF Go.Proofs.YtkjpelgdppmbjaaGreatDoor.CG

def rneQ (A B : Nat) : Nat := A / B + if B < 2 * (A % B) ∨ (B = 2 * (A % B) ∧ A / B % 2 = 1) then 1 else 0
theorem p52 : (4503599627370496 : Nat) = 2 ^ 52 := by decide
theorem p53 : (9007199254740992 : Nat) = 2 ^ 53 := by decide
theorem rneQ_pow (n d : Nat) : rneQ n (2 ^ d) = rne n d := rfl
theorem rneQ_one (n : Nat) : rneQ n 1 = n := by
 have := rne_zero n
 rw [← rneQ_pow, Nat.pow_zero] at this
 exact this
theorem rneQ_scale (A B k : Nat) (hk : 0 < k) : rneQ (A * k) (B * k) = rneQ A B := by
 unfold rneQ
 rw [Nat.mul_div_mul_right _ _ hk, Nat.mul_mod_mul_right, ← Nat.mul_assoc]
 have e1 : B * k < 2 * (A % B) * k ↔ B < 2 * (A % B) := Nat.mul_lt_mul_right hk
 have e2 : B * k = 2 * (A % B) * k ↔ B = 2 * (A % B) := Nat.mul_left_inj (by omega)
 simp only [e1, e2]
def NearU (A B w : Nat) : Prop := ∃ j : Nat, A < 9007199254740992 * (B * 2 ^ j) ∧ (j ≠ 0 → 4503599627370496 * (B * 2 ^ j) ≤ A) ∧ w = min (j * 4503599627370496 + rneQ A (B * 2 ^ j)) 9218868437227405312
theorem nearU_place {A B j k : Nat} (h1 : A < 9007199254740992 * (B * 2 ^ j)) (h2 : k ≠ 0 → 4503599627370496 * (B * 2 ^ k) ≤ A) : k ≤ j := by
 rcases Nat.lt_or_ge j k with h | h
 ·exfalso
  have h3 := h2 (by omega)
  have h4 : B * 2 ^ (j + 1) ≤ B * 2 ^ k := Nat.mul_le_mul_left _ (Nat.pow_le_pow_right (by omega) h)
  rw [Nat.pow_succ, ← Nat.mul_assoc] at h4
  omega
 ·exact h
theorem nearU_one {A B v w : Nat} (hv : NearU A B v) (hw : NearU A B w) : v = w := by
 obtain ⟨j, a1, a2, a3⟩ := hv
 obtain ⟨k, b1, b2, b3⟩ := hw
 obtain rfl : j = k := Nat.le_antisymm (nearU_place b1 a2) (nearU_place a1 b2)
 rw [a3, b3]
theorem nearU_scale {A B w k : Nat} (hk : 0 < k) : NearU (A * k) (B * k) w ↔ NearU A B w := by
 unfold NearU
 have e : ∀ j, B * k * 2 ^ j = B * 2 ^ j * k := fun j => by rw [Nat.mul_assoc, Nat.mul_comm k, ← Nat.mul_assoc]
 simp only [e, rneQ_scale _ _ k hk]
 have e1 : ∀ j, A * k < 9007199254740992 * (B * 2 ^ j * k) ↔ A < 9007199254740992 * (B * 2 ^ j) := fun j => by rw [← Nat.mul_assoc]; exact Nat.mul_lt_mul_right hk
 have e2 : ∀ j, 4503599627370496 * (B * 2 ^ j * k) ≤ A * k ↔ 4503599627370496 * (B * 2 ^ j) ≤ A := fun j => by rw [← Nat.mul_assoc]; exact Nat.mul_le_mul_right_iff hk
 simp only [e1, e2]
theorem nearU_any {A B : Nat} (hB : 0 < B) : ∃ w, NearU A B w := by
  have hex : ∃ j, A < 9007199254740992 * (B * 2 ^ j) := ⟨A, by
    have h1 : A < 2 ^ A := Nat.lt_two_pow_self
    have h2 : 1 * 2 ^ A ≤ B * 2 ^ A := Nat.mul_le_mul_right _ hB
    omega⟩
  have : ∀ n, (∃ j, j ≤ n ∧ A < 9007199254740992 * (B * 2 ^ j)) → ∃ j, A < 9007199254740992 * (B * 2 ^ j) ∧ (j ≠ 0 → ¬ A < 9007199254740992 * (B * 2 ^ (j - 1))) := by
    intro n
    induction n with
    | zero => rintro ⟨j, h, h1⟩; obtain rfl : j = 0 := by omega
              exact ⟨0, h1, fun h => absurd rfl h⟩
    | succ n ih =>
      rintro ⟨j, h, h1⟩
      by_cases hs : A < 9007199254740992 * (B * 2 ^ n)
      · exact ih ⟨n, Nat.le_refl _, hs⟩
      · by_cases hj : j ≤ n
        · exact ih ⟨j, hj, h1⟩
        · obtain rfl : j = n + 1 := by omega
          exact ⟨n + 1, h1, fun _ => hs⟩
  obtain ⟨j0, hj0⟩ := hex
  obtain ⟨j, h1, h2⟩ := this j0 ⟨j0, Nat.le_refl _, hj0⟩
  refine ⟨_, j, h1, fun h0 => ?_, rfl⟩
  have h3 := h2 h0
  obtain ⟨i, rfl⟩ : ∃ i, j = i + 1 := ⟨j - 1, by omega⟩
  rw [Nat.add_sub_cancel] at h3
  have e : B * 2 ^ (i + 1) = 2 * (B * 2 ^ i) := by rw [Nat.pow_succ]; ac_rfl
  rw [e]; omega
def NearE (A B : Nat) (E : Int) (w : Nat) : Prop := NearU (A * 2 ^ (E + 1074).toNat) (B * 2 ^ (-(E + 1074)).toNat) w
theorem nearE_one {A B v w : Nat} {E : Int} (hv : NearE A B E v) (hw : NearE A B E w) : v = w := nearU_one hv hw
theorem pow_pos (n : Nat) : 0 < 2 ^ n := Nat.pow_pos (by omega)
theorem nearU_same {A B C D w : Nat} (hB : 0 < B) (hD : 0 < D) (h : A * D = C * B) : NearU A B w ↔ NearU C D w := by
 rw [← nearU_scale (A := A) (B := B) hD, ← nearU_scale (A := C) (B := D) hB, h, Nat.mul_comm B D]
theorem nearE_same {A B C D w : Nat} {E F : Int} (hB : 0 < B) (hD : 0 < D) (a b : Nat) (hab : E + a = F + b) (h : A * 2 ^ b * D = C * 2 ^ a * B) : NearE A B E w ↔ NearE C D F w := by
 unfold NearE
 refine nearU_same (Nat.mul_pos hB (pow_pos _)) (Nat.mul_pos hD (pow_pos _)) ?_
 -- to one power
 have hp : 0 < 2 ^ (a + b) := pow_pos _
 apply Nat.eq_of_mul_eq_mul_right hp
 have e1 : A * 2 ^ (E + 1074).toNat * (D * 2 ^ (-(F + 1074)).toNat) * 2 ^ (a + b) = (A * 2 ^ b * D) * 2 ^ ((E + 1074).toNat + (-(F + 1074)).toNat + a) := by
  rw [Nat.pow_add 2 a b, Nat.pow_add, Nat.pow_add]; ac_rfl
 have e2 : C * 2 ^ (F + 1074).toNat * (B * 2 ^ (-(E + 1074)).toNat) * 2 ^ (a + b) = (C * 2 ^ a * B) * 2 ^ ((F + 1074).toNat + (-(E + 1074)).toNat + b) := by
  rw [Nat.pow_add 2 a b, Nat.pow_add, Nat.pow_add]; ac_rfl
 rw [e1, e2, h]
 congr 2
 omega
theorem nearE_of {A B w : Nat} {E : Int} (j : Nat) (h1 : A * 2 ^ (E + 1074 - j).toNat < 9007199254740992 * (B * 2 ^ (j - (E + 1074)).toNat)) (h2 : j ≠ 0 → 4503599627370496 * (B * 2 ^ (j - (E + 1074)).toNat) ≤ A * 2 ^ (E + 1074 - j).toNat)
  (h3 : w = min (j * 4503599627370496 + rneQ (A * 2 ^ (E + 1074 - j).toNat) (B * 2 ^ (j - (E + 1074)).toNat)) 9218868437227405312) : NearE A B E w := by
 unfold NearE
 -- both sides by one power more
 have hk : (E + 1074 - j).toNat + (j + (-(E + 1074)).toNat) = (j - (E + 1074)).toNat + (E + 1074).toNat := by omega
 obtain ⟨k, hk1, hk2⟩ : ∃ k : Nat, (E + 1074).toNat = (E + 1074 - j).toNat + k ∧ (-(E + 1074)).toNat + j = (j - (E + 1074)).toNat + k := ⟨min (E + 1074).toNat j, by omega, by omega⟩
 have eA : A * 2 ^ (E + 1074).toNat = A * 2 ^ (E + 1074 - j).toNat * 2 ^ k := by rw [hk1, Nat.pow_add, Nat.mul_assoc]
 have eB : B * 2 ^ (-(E + 1074)).toNat * 2 ^ j = B * 2 ^ (j - (E + 1074)).toNat * 2 ^ k := by rw [Nat.mul_assoc, ← Nat.pow_add, hk2, Nat.pow_add, Nat.mul_assoc]
 refine ⟨j, ?_, ?_, ?_⟩
 ·rw [eA, eB, ← Nat.mul_assoc]; exact (Nat.mul_lt_mul_right (pow_pos k)).2 h1
 ·intro h; rw [eA, eB, ← Nat.mul_assoc]; exact Nat.mul_le_mul_right _ (h2 h)
 ·rw [eA, eB, rneQ_scale _ _ _ (pow_pos k)]; exact h3
theorem packN_false (last : Int) (kept : Nat) : packN false last kept = min ((last + 1074).toNat * 4503599627370496 + kept) 9218868437227405312 := by
 unfold packN enc
 simp only [Bool.false_eq_true, if_false]
theorem near_nearE {M : Nat} {E : Int} (h : M ≠ 0) : NearE M 1 E (double.nearest false M E) := by
 have hl := lt_log M
 have hg := log_le h
 have hlast : -1074 ≤ lastP M E := by unfold lastP; omega
 refine nearE_of (lastP M E + 1074).toNat ?_ ?_ ?_
 ·rw [Nat.one_mul, show (E + 1074 - ((lastP M E + 1074).toNat : Nat)).toNat = (E - lastP M E).toNat by omega, show (((lastP M E + 1074).toNat : Nat) - (E + 1074)).toNat = (lastP M E - E).toNat by omega]
  have h1 : M * 2 ^ (E - lastP M E).toNat < 2 ^ (M.log2 + 1) * 2 ^ (E - lastP M E).toNat := (Nat.mul_lt_mul_right (pow_pos _)).2 hl
  rw [← Nat.pow_add] at h1
  refine Nat.lt_of_lt_of_le h1 ?_
  rw [p53, ← Nat.pow_add]
  exact Nat.pow_le_pow_right (by omega) (by unfold lastP; omega)
 ·intro hne
  rw [Nat.one_mul, show (E + 1074 - ((lastP M E + 1074).toNat : Nat)).toNat = (E - lastP M E).toNat by omega, show (((lastP M E + 1074).toNat : Nat) - (E + 1074)).toNat = (lastP M E - E).toNat by omega]
  have h1 : 2 ^ M.log2 * 2 ^ (E - lastP M E).toNat ≤ M * 2 ^ (E - lastP M E).toNat := Nat.mul_le_mul_right _ hg
  rw [← Nat.pow_add] at h1
  refine Nat.le_trans ?_ h1
  rw [p52, ← Nat.pow_add]
  refine Nat.pow_le_pow_right (by omega) ?_
  unfold lastP at hne ⊢; omega
 ·rw [near_eq false M E h, packN_false, Nat.one_mul, show (E + 1074 - ((lastP M E + 1074).toNat : Nat)).toNat = (E - lastP M E).toNat by omega, show (((lastP M E + 1074).toNat : Nat) - (E + 1074)).toNat = (lastP M E - E).toNat by omega, rneQ_pow]
end Go.Proofs.YtkjpelgdppmbjaaGreatDoor.CQ
