/- This session's text, made small by mini.py. No condition beyond those typed. -/
import Derived.Test.YtfoekmfpcahmiabGreatDoorSQZip
import Derived.Test.YtfoekmfpcahmiabGreatDoorVQMore
import Derived.Lib.BitFns
namespace Go.Proofs.YtfoekmfpcahmiabGreatDoor.CB
open Go.RowKit YtfoekmfpcahmiabGreatDoorW.PrintWords YtfoekmfpcahmiabGreatDoorW.PrintLast
theorem w64 {x : Int} (h : -9223372036854775808 ≤ x) (h2 : x < 9223372036854775808) : wrap64 x = x:=by
 unfold wrap64;omega
theorem w64s {x : Nat} (h : x < 9223372036854775807) : wrap64 ((x : Int) + 1) = ((x + 1 : Nat) : Int):=by rw [w64 (by omega) (by omega)];rfl
theorem wu64 (n : Int) : IntKind.u64.wrap n = n % 18446744073709551616:=by simp [IntKind.wrap,IntKind.bits,IntKind.signed]
theorem ZdP (a b : Nat) (ha : a < 18446744073709551616) (hb : b < 18446744073709551616) : Go.bits .and .u64 (a : Int) (b : Int) = ((a &&& b : Nat) : Int):=by
 have hlt : a &&& b < 18446744073709551616:=Nat.lt_of_le_of_lt Nat.and_le_left ha;simp only [Go.bits,wu64];show (((BitVec.ofInt 64 (a : Int) &&& BitVec.ofInt 64 (b : Int)).toNat : Int)) % _ = _;rw [BitVec.ofInt_natCast,BitVec.ofInt_natCast,BitVec.toNat_and,BitVec.toNat_ofNat,BitVec.toNat_ofNat,Nat.mod_eq_of_lt ha,Nat.mod_eq_of_lt hb];omega
theorem Ziz (a b : Nat) (ha : a < 18446744073709551616) (hb : b < 18446744073709551616) : Go.bits .or .u64 (a : Int) (b : Int) = ((a ||| b : Nat) : Int):=by
 have hlt : a ||| b < 2 ^ 64:=Nat.or_lt_two_pow (n:=64) (by omega) (by omega);simp only [Go.bits,wu64];show (((BitVec.ofInt 64 (a : Int) ||| BitVec.ofInt 64 (b : Int)).toNat : Int)) % _ = _;rw [BitVec.ofInt_natCast,BitVec.ofInt_natCast,BitVec.toNat_or,BitVec.toNat_ofNat,BitVec.toNat_ofNat,Nat.mod_eq_of_lt ha,Nat.mod_eq_of_lt hb];omega
theorem wi64 (n : Int) : IntKind.i64.wrap n = wrap64 n:=by rw [IntKind.wrap_i64];unfold wrap64;rfl
theorem ZjY (a b : Nat) (ha : a < 9223372036854775808) (hb : b < 9223372036854775808) : Go.bits .and .i64 (a : Int) (b : Int) = ((a &&& b : Nat) : Int):=by
 have hlt : a &&& b < 9223372036854775808:=Nat.lt_of_le_of_lt Nat.and_le_left ha;simp only [Go.bits,wi64];show wrap64 (((BitVec.ofInt 64 (a : Int) &&& BitVec.ofInt 64 (b : Int)).toNat : Int)) = _;rw [BitVec.ofInt_natCast,BitVec.ofInt_natCast,BitVec.toNat_and,BitVec.toNat_ofNat,BitVec.toNat_ofNat,Nat.mod_eq_of_lt (by omega),Nat.mod_eq_of_lt (by omega),w64 (by omega) (by omega)]
theorem mask (a n : Nat) : a &&& (2 ^ n - 1) = a % 2 ^ n:=Nat.and_two_pow_sub_one_eq_mod a n
theorem join (a b n : Nat) (hb : b < 2 ^ n) : (2 ^ n * a) ||| b = 2 ^ n * a + b:=(Nat.two_pow_add_eq_or_of_lt hb a).symm
theorem Zh9 {a : Int} {b : Int} (ha : 0 ≤ a) : Int.tdiv a b = a / b:=Int.tdiv_eq_ediv_of_nonneg ha
theorem ZgB {a : Int} {b : Int} (ha : 0 ≤ a) : Int.tmod a b = a % b:=Int.tmod_eq_emod_of_nonneg ha
theorem ZdN (s : ByteArray) (i : Nat) (h : i < s.size) : bt s i = ((s.data.toList[i]'(by simpa using h)).toNat : Int):=by
 unfold bt;(have h1 : (i : Int).toNat < s.size:=by omega);rw [dif_pos h1];simp only [Int.toNat_natCast,Array.getElem_toList];rfl
theorem Zch (l : List Int) : (strOfNums l).size = l.length:=by simp [strOfNums,ByteArray.size]
theorem mulB {x y : Int} (hx : 0 ≤ x) (hx1 : x < 4294967296) (hy : 0 ≤ y) (hy1 : y < 4294967296) : 0 ≤ x * y ∧ x * y ≤ 18446744065119617025:=by
 refine ⟨Int.mul_nonneg hx hy,?_⟩;have:=Int.mul_le_mul (show x ≤ 4294967295 by omega) (show y ≤ 4294967295 by omega) hy (by omega);omega
end Go.Proofs.YtfoekmfpcahmiabGreatDoor.CB
namespace Go.Proofs.YtfoekmfpcahmiabGreatDoor.CR
open Ieee
def rne (n d : Nat) : Nat:=n / 2 ^ d + if 2 ^ d < 2 * (n % 2 ^ d) ∨ (2 ^ d = 2 * (n % 2 ^ d) ∧ n / 2 ^ d % 2 = 1) then 1 else 0
def rneS (n d : Nat) : Nat:=n / 2 ^ d + if 2 ^ d ≤ 2 * (n % 2 ^ d) then 1 else 0
theorem Zcv (n : Nat) : rne n 0 = n:=by
 unfold rne;rw [Nat.pow_zero,Nat.mod_one,Nat.div_one,if_neg (by omega)];rfl
theorem Zdw (n : Nat) : n < 2 ^ (n.log2 + 1):=Nat.lt_log2_self
theorem Zd8 {n : Nat} (h : n ≠ 0) : 2 ^ n.log2 ≤ n:=Nat.log2_self_le h
theorem ZmT {n k : Nat} (h0 : 2 ^ k ≤ n) (h1 : n < 2 ^ (k + 1)) : n.log2 = k:=by
 (have hn : n ≠ 0:=by have : 0 < 2 ^ k:=Nat.pow_pos (by omega);omega);exact (Nat.log2_eq_iff hn).2 ⟨h0,h1⟩
theorem ZeK {n k : Nat} (h : n < 2 ^ k) (hn : n ≠ 0) : n.log2 < k:=(Nat.log2_lt hn).2 h
theorem Zkk {n k : Nat} (h : 2 ^ k ≤ n) : k ≤ n.log2:=by
 (have hn : n ≠ 0:=by have : 0 < 2 ^ k:=Nat.pow_pos (by omega);omega);exact (Nat.le_log2 hn).2 h
theorem ZoH (b : Bool) (n d : Nat) : Toward.even.cut b n d = rne n d:=by
 unfold Toward.cut rne;simp only [Nat.one_shiftLeft];have hl:=Zdw n;by_cases h : d ≤ n.log2 + 2
 ·rw [Nat.min_eq_left h]
  congr 1
  by_cases h1 : 2 ^ d < 2 * (n % 2 ^ d)
  ·simp [h1]
  ·by_cases h2 : 2 ^ d = 2 * (n % 2 ^ d)
   ·by_cases h3 : n / 2 ^ d % 2 = 1
    ·rw [if_pos (.inr ⟨h2,h3⟩)];simp [h3,← h2]
    ·rw [if_neg (by omega)];simp [h3,h1]
   ·rw [if_neg (by omega)];simp [h1,h2]
 ·rw [Nat.min_eq_right (by omega)];(have hp : (2 : Nat) ^ (n.log2 + 2) = 2 * 2 ^ (n.log2 + 1):=by rw [Nat.pow_succ 2 (n.log2 + 1)];omega);have hq : 2 ^ (n.log2 + 2) ≤ 2 ^ d:=Nat.pow_le_pow_right (by omega) (by omega)
  generalize 2 ^ (n.log2 + 2) = p at *
  generalize 2 ^ (n.log2 + 1) = q at *
  generalize 2 ^ d = r at *
  rw [Nat.div_eq_of_lt (show n < p by omega),Nat.mod_eq_of_lt (show n < p by omega),Nat.div_eq_of_lt (show n < r by omega),Nat.mod_eq_of_lt (show n < r by omega),if_neg (by omega)];have e1 : decide (p < 2 * n) = false:=decide_eq_false (by omega);simp [e1]
def ZaA (M : Nat) (E : Int) : Int:=max (E + M.log2 - 52) (-1074)
def enc (b : Bool) (r : Nat) : Nat:=if b then 9223372036854775808 + r else r
def ZcA (b : Bool) (last : Int) (kept : Nat) : Nat:=enc b (min ((last + 1074).toNat * 4503599627370496 + kept) 9218868437227405312)
theorem Zdj (b : Bool) (M : Nat) (E : Int) (h : M ≠ 0) : double.nearest b M E = ZcA b (ZaA M E) (rne (M * 2 ^ (E - ZaA M E).toNat) (ZaA M E - E).toNat):=by
 unfold Format.nearest;rw [if_neg h];simp only [ZoH,Nat.shiftLeft_eq];rfl
theorem ZcB (b : Bool) (E : Int) : double.nearest b 0 E = enc b 0:=by
 unfold Format.nearest;rw [if_pos rfl];rfl
theorem ZdE (b : Bool) (M : Nat) (E : Int) (h : M ≠ 0) (hl : E ≤ ZaA M E) : double.nearest b M E = ZcA b (ZaA M E) (rne M (ZaA M E - E).toNat):=by
 rw [Zdj b M E h,show (E - ZaA M E).toNat = 0 by omega,Nat.pow_zero,Nat.mul_one]
theorem near_up (b : Bool) (M : Nat) (E : Int) (h : M ≠ 0) (hl : ZaA M E ≤ E) : double.nearest b M E = ZcA b (ZaA M E) (M * 2 ^ (E - ZaA M E).toNat):=by
 rw [Zdj b M E h,show (ZaA M E - E).toNat = 0 by omega,Zcv]
theorem Zmf (n d : Nat) (hd : 1 ≤ d) : rne (2 * n + 1) (d + 1) = rneS n d:=by
 unfold rne rneS;obtain ⟨c,rfl⟩ : ∃ c,d = c + 1:=⟨d - 1,by omega⟩;(have e1 : (2 : Nat) ^ (c + 1 + 1) = 2 * 2 ^ (c + 1):=by rw [Nat.pow_succ 2 (c + 1)];omega);(have e2 : (2 : Nat) ^ (c + 1) = 2 * 2 ^ c:=by rw [Nat.pow_succ 2 c];omega);have hp : 0 < 2 ^ c:=Nat.pow_pos (by omega)
 have q1 : (2 * n + 1) / 2 ^ (c + 1 + 1) = n / 2 ^ (c + 1):=by
  rw [e1,← Nat.div_div_eq_div_mul,show (2 * n + 1) / 2 = n by omega]
 have q2 : (2 * n + 1) % 2 ^ (c + 1 + 1) = 2 * (n % 2 ^ (c + 1)) + 1:=by
  have h1:=Nat.div_add_mod (2 * n + 1) (2 ^ (c + 1 + 1));have h2:=Nat.div_add_mod n (2 ^ (c + 1));rw [q1,e1,Nat.mul_assoc] at h1;rw [e1];omega
 rw [q1,q2];generalize n / 2 ^ (c + 1) = u;generalize n % 2 ^ (c + 1) = v;rw [e1,e2]
 generalize 2 ^ c = w at *
 congr 1
 by_cases h : 2 * w ≤ 2 * v
 ·rw [if_pos h,if_pos (.inl (by omega))]
 ·rw [if_neg h,if_neg (by omega)]
theorem ZmS (M : Nat) (h : M ≠ 0) : (2 * M + 1).log2 = M.log2 + 1:=by
 have h1:=Zd8 h;have h2:=Zdw M;apply ZmT
 ·rw [Nat.pow_succ];omega
 ·rw [Nat.pow_succ];omega
def Zen (b : Bool) (M : Nat) (E : Int) (st : Bool) : Nat:=if st then double.nearest b (2 * M + 1) (E - 1) else double.nearest b M E
theorem Zgh (M : Nat) (E : Int) (h : 72057594037927936 ≤ M) : E + 4 ≤ ZaA M E:=by
 have:=Zkk (n:=M) (k:=56) h;unfold ZaA;omega
theorem ZmL (b : Bool) (M : Nat) (E : Int) (h : 72057594037927936 ≤ M) : Zen b M E true = ZcA b (ZaA M E) (rneS M (ZaA M E - E).toNat):=by
 have h4:=Zgh M E h;(have e : ZaA (2 * M + 1) (E - 1) = ZaA M E:=by unfold ZaA;rw [ZmS M (by omega)];omega);unfold Zen;rw [if_pos rfl,ZdE b _ _ (by omega) (by omega),e,show (ZaA M E - (E - 1)).toNat = (ZaA M E - E).toNat + 1 by omega,Zmf _ _ (by omega)]
theorem rne_le (n d k : Nat) (h : n < 2 ^ (k + d)) : rne n d ≤ 2 ^ k:=by
 have h1 : n / 2 ^ d < 2 ^ k:=Nat.div_lt_of_lt_mul (by rw [← Nat.pow_add,Nat.add_comm];exact h);unfold rne;split <;> omega
theorem rne_ge (n d k : Nat) (h : 2 ^ (k + d) ≤ n) : 2 ^ k ≤ rne n d:=by
 have h1 : 2 ^ k ≤ n / 2 ^ d:=(Nat.le_div_iff_mul_le (Nat.pow_pos (by omega))).2 (by rw [← Nat.pow_add];exact h);unfold rne;omega
theorem Zg4 (M : Nat) (E : Int) (h : M ≠ 0) :
  rne (M * 2 ^ (E - ZaA M E).toNat) (ZaA M E - E).toNat ≤ 9007199254740992 ∧ (ZaA M E ≠ -1074 → 4503599627370496 ≤ rne (M * 2 ^ (E - ZaA M E).toNat) (ZaA M E - E).toNat):=by
 have h1:=Zd8 h;have h2:=Zdw M;by_cases hd : ZaA M E ≤ E
 ·rw [show (ZaA M E - E).toNat = 0 by omega,Zcv];(have hk : M.log2 + (E - ZaA M E).toNat ≤ 52:=by unfold ZaA at hd ⊢;omega);constructor
  ·have : M * 2 ^ (E - ZaA M E).toNat < 2 ^ (M.log2 + 1) * 2 ^ (E - ZaA M E).toNat:=Nat.mul_lt_mul_of_pos_right h2 (Nat.pow_pos (by omega));rw [← Nat.pow_add] at this;exact Nat.le_of_lt (Nat.lt_of_lt_of_le this (Nat.pow_le_pow_right (n:=2) (by omega) (show M.log2 + 1 + (E - ZaA M E).toNat ≤ 53 by omega)))
  ·intro hne;(have hk2 : M.log2 + (E - ZaA M E).toNat = 52:=by unfold ZaA at hd hne ⊢;omega);have : 2 ^ M.log2 * 2 ^ (E - ZaA M E).toNat ≤ M * 2 ^ (E - ZaA M E).toNat:=Nat.mul_le_mul_right _ h1;rw [← Nat.pow_add,hk2] at this;exact this
 ·rw [show (E - ZaA M E).toNat = 0 by omega,Nat.pow_zero,Nat.mul_one];constructor
  ·exact rne_le M _ 53 (Nat.lt_of_lt_of_le h2 (Nat.pow_le_pow_right (by omega) (by unfold ZaA at hd ⊢;omega)))
  ·intro hne;exact rne_ge M _ 52 (Nat.le_trans (Nat.pow_le_pow_right (by omega) (by unfold ZaA at hd hne ⊢;omega)) h1)
end Go.Proofs.YtfoekmfpcahmiabGreatDoor.CR
namespace Go.Proofs.YtfoekmfpcahmiabGreatDoor.CF
open Ieee CR
theorem Zgf (M k : Nat) (h : M ≠ 0) : (M * 2 ^ k).log2 = M.log2 + k:=by
 have h1:=Zd8 h;have h2:=Zdw M;have hp : 0 < 2 ^ k:=Nat.pow_pos (by omega);apply ZmT
 ·rw [Nat.pow_add];exact Nat.mul_le_mul_right _ h1
 ·rw [show M.log2 + k + 1 = M.log2 + 1 + k by omega,Nat.pow_add];exact Nat.mul_lt_mul_of_pos_right h2 hp
theorem Zio (n k d : Nat) : rne (n * 2 ^ k) (d + k) = rne n d:=by
 have hp : 0 < 2 ^ k:=Nat.pow_pos (by omega);have hq : 0 < 2 ^ d:=Nat.pow_pos (by omega);unfold rne;(have e1 : n * 2 ^ k / 2 ^ (d + k) = n / 2 ^ d:=by rw [Nat.pow_add];exact Nat.mul_div_mul_right _ _ hp);(have e2 : n * 2 ^ k % 2 ^ (d + k) = n % 2 ^ d * 2 ^ k:=by rw [Nat.pow_add];exact Nat.mul_mod_mul_right _ _ _);have e3 : (2 : Nat) ^ (d + k) = 2 ^ d * 2 ^ k:=Nat.pow_add ..;rw [e1,e2,e3]
 have c1 : (2 ^ d * 2 ^ k < 2 * (n % 2 ^ d * 2 ^ k)) ↔ 2 ^ d < 2 * (n % 2 ^ d):=by
  rw [← Nat.mul_assoc];exact Nat.mul_lt_mul_right hp
 have c2 : (2 ^ d * 2 ^ k = 2 * (n % 2 ^ d * 2 ^ k)) ↔ 2 ^ d = 2 * (n % 2 ^ d):=by
  rw [← Nat.mul_assoc];exact Nat.mul_left_inj (by omega)
 simp only [c1,c2]
theorem rne_up (n k d : Nat) (h : d ≤ k) : rne (n * 2 ^ k) d = n * 2 ^ (k - d):=by
 have:=Zio (n * 2 ^ (k - d)) d 0;rw [Nat.mul_assoc,← Nat.pow_add,show k - d + d = k by omega,Nat.zero_add,Zcv] at this;exact this
theorem ZcN (b : Bool) (M k : Nat) (E : Int) (h : M ≠ 0) : double.nearest b (M * 2 ^ k) (E - k) = double.nearest b M E:=by
 have hp : 0 < 2 ^ k:=Nat.pow_pos (by omega);have h' : M * 2 ^ k ≠ 0:=Nat.mul_ne_zero h (by omega);(have hl : ZaA (M * 2 ^ k) (E - k) = ZaA M E:=by unfold ZaA;rw [Zgf M k h];omega);rw [Zdj b _ _ h',Zdj b M E h,hl]
 congr 1
 generalize ZaA M E = last;by_cases h1 : last ≤ E - k
 ·rw [show (last - (E - k)).toNat = 0 by omega,show (last - E).toNat = 0 by omega,Zcv,Zcv,Nat.mul_assoc,← Nat.pow_add,show k + (E - k - last).toNat = (E - last).toNat by omega]
 ·rw [show (E - k - last).toNat = 0 by omega,Nat.pow_zero,Nat.mul_one];by_cases h2 : last ≤ E
  ·rw [show (last - E).toNat = 0 by omega,Zcv,rne_up _ _ _ (by omega),show k - (last - (E - k)).toNat = (E - last).toNat by omega]
  ·rw [show (E - last).toNat = 0 by omega,Nat.pow_zero,Nat.mul_one,show (last - (E - k)).toNat = (last - E).toNat + k by omega,Zio]
theorem rne_stk (M k t d : Nat) (ht : t < 2 ^ k) (h0 : t ≠ 0) (hd : 1 ≤ d) : rne (M * 2 ^ k + t) (d + k) = rneS M d:=by
 obtain ⟨c,rfl⟩ : ∃ c,d = c + 1:=⟨d - 1,by omega⟩;have hp : 0 < 2 ^ k:=Nat.pow_pos (by omega);have hc : 0 < 2 ^ c:=Nat.pow_pos (by omega);unfold rne rneS;have e3 : (2 : Nat) ^ (c + 1 + k) = 2 ^ (c + 1) * 2 ^ k:=Nat.pow_add ..;have e4 : (2 : Nat) ^ (c + 1) = 2 * 2 ^ c:=by rw [Nat.pow_succ,Nat.mul_comm]
 have e0 : (M * 2 ^ k + t) / 2 ^ k = M:=by
  rw [Nat.mul_comm,Nat.mul_add_div hp,Nat.div_eq_of_lt ht,Nat.add_zero]
 have e1 : (M * 2 ^ k + t) / 2 ^ (c + 1 + k) = M / 2 ^ (c + 1):=by
  rw [e3,Nat.mul_comm (2 ^ (c + 1)),← Nat.div_div_eq_div_mul,e0]
 have e2 : (M * 2 ^ k + t) % 2 ^ (c + 1 + k) = M % 2 ^ (c + 1) * 2 ^ k + t:=by
  have q1:=Nat.div_add_mod (M * 2 ^ k + t) (2 ^ (c + 1 + k));have q2:=Nat.div_add_mod M (2 ^ (c + 1));rw [e1,e3] at q1;(have q3 : M * 2 ^ k = 2 ^ (c + 1) * (M / 2 ^ (c + 1)) * 2 ^ k + M % 2 ^ (c + 1) * 2 ^ k:=by rw [← Nat.add_mul,q2]);(have q4 : 2 ^ (c + 1) * (M / 2 ^ (c + 1)) * 2 ^ k = 2 ^ (c + 1) * 2 ^ k * (M / 2 ^ (c + 1)):=by rw [Nat.mul_assoc,Nat.mul_assoc,Nat.mul_comm (M / 2 ^ (c + 1))]);rw [e3];omega
 rw [e1,e2,e3]
 generalize M % 2 ^ (c + 1) = r at *
 generalize M / 2 ^ (c + 1) = q at *
 congr 1
 rw [e4]
 generalize 2 ^ c = P at *
 generalize 2 ^ k = K at *
 by_cases h : 2 * P ≤ 2 * r
 ·have : P * K ≤ r * K:=Nat.mul_le_mul_right K (by omega);(have h2 : 2 * P * K < 2 * (r * K + t):=by rw [Nat.mul_assoc];omega);rw [if_pos h,if_pos (.inl h2)]
 ·have : (r + 1) * K ≤ P * K:=Nat.mul_le_mul_right K (by omega);rw [Nat.add_mul] at this;(have h2 : ¬ (2 * P * K < 2 * (r * K + t) ∨ (2 * P * K = 2 * (r * K + t) ∧ q % 2 = 1)):=by rw [Nat.mul_assoc];omega);rw [if_neg h,if_neg h2]
theorem log_stk (M k t : Nat) (h : M ≠ 0) (ht : t < 2 ^ k) : (M * 2 ^ k + t).log2 = M.log2 + k:=by
 have h1:=Zd8 h;have h2:=Zdw M;have hp : 0 < 2 ^ k:=Nat.pow_pos (by omega);apply ZmT
 ·rw [Nat.pow_add];exact Nat.le_trans (Nat.mul_le_mul_right _ h1) (by omega)
 ·rw [show M.log2 + k + 1 = M.log2 + 1 + k by omega,Nat.pow_add];have : (M + 1) * 2 ^ k ≤ 2 ^ (M.log2 + 1) * 2 ^ k:=Nat.mul_le_mul_right _ h2;rw [Nat.add_mul] at this;omega
theorem Zlj (M : Nat) (E : Int) (h : 9007199254740992 ≤ M) : E + 1 ≤ ZaA M E:=by
 have:=Zkk (n:=M) (k:=53) h;unfold ZaA;omega
theorem Zjx (b : Bool) (M k t : Nat) (E : Int) (hM : 9007199254740992 ≤ M) (ht : t < 2 ^ k) (h0 : t ≠ 0) : double.nearest b (M * 2 ^ k + t) (E - k) = double.nearest b (2 * M + 1) (E - 1):=by
 (have hn : M ≠ 0:=by omega);have h4:=Zlj M E hM;(have e1 : ZaA (M * 2 ^ k + t) (E - k) = ZaA M E:=by unfold ZaA;rw [log_stk M k t hn ht];omega);(have e2 : ZaA (2 * M + 1) (E - 1) = ZaA M E:=by unfold ZaA;rw [ZmS M hn];omega);have hp : 0 < 2 ^ k:=Nat.pow_pos (by omega);rw [ZdE b _ _ (by omega) (by omega),ZdE b _ _ (by omega) (by omega),e1,e2,show (ZaA M E - (E - k)).toNat = (ZaA M E - E).toNat + k by omega,show (ZaA M E - (E - 1)).toNat = (ZaA M E - E).toNat + 1 by omega,Zmf _ _ (by omega),rne_stk M k t _ ht h0 (by omega)]
end Go.Proofs.YtfoekmfpcahmiabGreatDoor.CF
namespace Go.Proofs.YtfoekmfpcahmiabGreatDoor.CG
open Ieee CR CF
def sgn (x : Nat) : Bool:=decide (9223372036854775808 ≤ x)
theorem Zfw (x : Nat) (hx : x < 18446744073709551616) : double.read x =
  if x % 9223372036854775808 < 4503599627370496 then .number (sgn x) (x % 9223372036854775808) (-1074)
  else if x % 9223372036854775808 < 9218868437227405312 then .number (sgn x) (4503599627370496 + x % 4503599627370496) (((x / 4503599627370496 % 2048 : Nat) : Int) - 1075)
  else if x % 9223372036854775808 = 9218868437227405312 then .infinity (sgn x) else .nan (sgn x) (x % 9223372036854775808 - 9218868437227405312):=by
 (have e1 : double.signWeight = 9223372036854775808:=by decide);(have e2 : double.binade = 4503599627370496:=by decide);(have e3 : double.infRung = 9218868437227405312:=by decide);have e4 : double.leastPlace = -1074:=by decide
 have e5 : (x / 9223372036854775808 % 2 == 1) = sgn x:=by
  unfold sgn;rw [Bool.eq_iff_iff];simp;omega
 unfold Format.read;simp only [e1,e2,e3,e4,e5];by_cases h1 : x % 9223372036854775808 < 4503599627370496
 ·rw [if_pos h1,if_pos h1]
 ·rw [if_neg h1,if_neg h1];by_cases h2 : x % 9223372036854775808 < 9218868437227405312
  ·rw [if_pos h2,if_pos h2,show x % 9223372036854775808 % 4503599627370496 = x % 4503599627370496 by omega]
   congr 1
   omega
  ·rw [if_neg h2,if_neg h2]
theorem Zfu {x m : Nat} {b : Bool} {e : Int} (hx : x < 18446744073709551616) (h : double.read x = .number b m e) :
  b = sgn x ∧ m < 9007199254740992 ∧ -1074 ≤ e ∧ e ≤ 971 ∧ (e ≠ -1074 → 4503599627370496 ≤ m) ∧ x = enc b ((e + 1074).toNat * 4503599627370496 + m) ∧ (m = 0 → e = -1074):=by
 rw [Zfw x hx] at h;split at h
 ·injection h with h1 h2 h3;subst h1 h2 h3;refine ⟨rfl,by omega,by omega,by omega,fun h => absurd rfl h,?_,fun _ => rfl⟩;unfold enc sgn;by_cases h : 9223372036854775808 ≤ x
  ·rw [decide_eq_true h,if_pos rfl];omega
  ·rw [decide_eq_false h,if_neg (by simp)];omega
 ·split at h
  ·injection h with h1 h2 h3;subst h1 h2 h3;refine ⟨rfl,by omega,by omega,by omega,fun _ => by omega,?_,fun _ => by omega⟩;unfold enc sgn;by_cases h : 9223372036854775808 ≤ x
   ·rw [decide_eq_true h,if_pos rfl];omega
   ·rw [decide_eq_false h,if_neg (by simp)];omega
  ·split at h <;> cases h
theorem Zhs {x : Nat} {b : Bool} (hx : x < 18446744073709551616) (h : double.read x = .infinity b) : b = sgn x ∧ x = enc b 9218868437227405312:=by
 rw [Zfw x hx] at h;split at h
 ·cases h
 ·split at h
  ·cases h
  ·split at h
   ·injection h with h1;subst h1;refine ⟨rfl,?_⟩;unfold enc sgn;by_cases h : 9223372036854775808 ≤ x
    ·rw [decide_eq_true h,if_pos rfl];omega
    ·rw [decide_eq_false h,if_neg (by simp)];omega
   ·cases h
theorem ZfE (b : Bool) : double.write (.infinity b) = enc b 9218868437227405312:=by
 unfold Format.write Format.word enc;rfl
theorem Zlk {m : Nat} {e : Int} (h0 : m ≠ 0) (hm : m < 9007199254740992) (he : -1074 ≤ e) (hn : e ≠ -1074 → 4503599627370496 ≤ m) : ZaA m e = e:=by
 have h1 : m.log2 < 53:=ZeK hm h0;unfold ZaA;by_cases h : e = -1074
 ·subst h;omega
 ·have h2:=Zkk (n:=m) (k:=52) (hn h);omega
theorem Zga {b : Bool} {m : Nat} {e : Int} (hm : m < 9007199254740992) (he : -1074 ≤ e) (he2 : e ≤ 971) (hn : e ≠ -1074 → 4503599627370496 ≤ m) (hz : m = 0 → e = -1074) : double.nearest b m e = enc b ((e + 1074).toNat * 4503599627370496 + m):=by
 by_cases h0 : m = 0
 ·obtain rfl:=h0;obtain rfl:=hz rfl;rw [ZcB];rfl
 ·have hl:=Zlk h0 hm he hn;rw [ZdE b m e h0 (by omega),hl,Int.sub_self,show (0 : Int).toNat = 0 from rfl,Zcv];unfold ZcA;rw [Nat.min_eq_left (by omega)]
theorem ZeI {x m : Nat} {b : Bool} {e : Int} (hx : x < 18446744073709551616) (h : double.read x = .number b m e) : double.nearest b m e = x:=by
 obtain ⟨_,h2,h3,h4,h5,h6,h7⟩:=Zfu hx h;rw [Zga h2 h3 h4 h5 h7,← h6]
def nanW : Nat:=9221120237041090560
theorem Zl5 (s : Bool) (m u : Nat) : signed s m u = if s then -((m * 2 ^ u : Nat) : Int) else ((m * 2 ^ u : Nat) : Int):=by
 unfold signed;rw [Nat.shiftLeft_eq]
def mulT (x y : Nat) : Nat:=(double.mul x y).getD nanW
theorem mul_fin {x y m n : Nat} {s t : Bool} {i j : Int} (hx : double.read x = .number s m i) (hy : double.read y = .number t n j) : mulT x y = double.nearest (s ^^ t) (m * n) (i + j):=by
 unfold mulT Format.mul;rw [hx,hy];rfl
def divT (x y : Nat) : Nat:=(double.div x y).getD nanW
def quo (m n u : Nat) : Nat:=2 * (m * 2 ^ u / n) + (decide (m * 2 ^ u % n ≠ 0)).toNat
theorem Zkc (b : Bool) (m n u d : Nat) (E : Int) (hn : n ≠ 0) (hm : m ≠ 0) (hb : 9007199254740992 ≤ m * 2 ^ u / n) : double.nearest b (quo m n (u + d)) (E - (u + d : Nat) - 1) = double.nearest b (quo m n u) (E - u - 1):=by
 have hp : 0 < 2 ^ d:=Nat.pow_pos (by omega);(have e0 : m * 2 ^ (u + d) = m * 2 ^ u * 2 ^ d:=by rw [Nat.pow_add,Nat.mul_assoc]);unfold quo;rw [e0]
 generalize m * 2 ^ u = A at *
 have hA:=Nat.div_add_mod A n;have hr:=Nat.mod_lt A (show 0 < n by omega)
 generalize A / n = X at *
 generalize A % n = r at *
 (have e1 : A * 2 ^ d = n * (X * 2 ^ d) + r * 2 ^ d:=by rw [← hA,Nat.add_mul,Nat.mul_assoc]);(have e2 : A * 2 ^ d / n = X * 2 ^ d + r * 2 ^ d / n:=by rw [e1,Nat.mul_add_div (by omega)]);(have e3 : A * 2 ^ d % n = r * 2 ^ d % n:=by rw [e1,Nat.mul_add_mod]);rw [e2,e3];by_cases h0 : r = 0
 ·subst h0;rw [Nat.zero_mul,Nat.zero_div,Nat.zero_mod];simp only [ne_eq,not_true_eq_false,decide_false,Bool.toNat_false,Nat.add_zero];have:=ZcN b (2 * X) d (E - u - 1) (by omega);rw [show E - u - 1 - (d : Int) = E - ((u + d : Nat) : Int) - 1 by omega,Nat.mul_assoc] at this;exact this
 ·have hlt : r * 2 ^ d / n < 2 ^ d:=by
   refine Nat.div_lt_of_lt_mul ?_;exact Nat.mul_lt_mul_of_pos_right hr hp
  have ht0 : 2 * (r * 2 ^ d / n) + (decide (r * 2 ^ d % n ≠ 0)).toNat ≠ 0:=by
   by_cases h : r * 2 ^ d % n = 0
   ·have h1:=Nat.div_add_mod (r * 2 ^ d) n;have h2 : 0 < r * 2 ^ d:=Nat.mul_pos (by omega) hp
    have h3 : r * 2 ^ d / n ≠ 0:=by
     intro h3;rw [h3,h] at h1;omega
    omega
   ·rw [decide_eq_true h];simp
  have ht1 : 2 * (r * 2 ^ d / n) + (decide (r * 2 ^ d % n ≠ 0)).toNat < 2 ^ (d + 1):=by
   have:=Bool.toNat_le (decide (r * 2 ^ d % n ≠ 0));rw [Nat.pow_succ];omega
  have:=Zjx b X (d + 1) _ (E - u) hb ht1 ht0;rw [show E - (u : Int) - ((d + 1 : Nat) : Int) = E - ((u + d : Nat) : Int) - 1 by omega] at this;rw [decide_eq_true h0,Bool.toNat_true,← this]
  congr 1
  rw [Nat.pow_succ,Nat.mul_add,Nat.mul_comm (2 ^ d) 2,Nat.mul_left_comm X 2];omega
theorem quo_any (b : Bool) (m n u v : Nat) (E : Int) (hn : n ≠ 0) (hm : m ≠ 0) (hu : 9007199254740992 ≤ m * 2 ^ u / n) (hv : 9007199254740992 ≤ m * 2 ^ v / n) : double.nearest b (quo m n u) (E - u - 1) = double.nearest b (quo m n v) (E - v - 1):=by
 rcases Nat.le_total u v with h | h
 ·obtain ⟨d,rfl⟩:=Nat.le.dest h;exact (Zkc b m n u d E hn hm hu).symm
 ·obtain ⟨d,rfl⟩:=Nat.le.dest h;exact Zkc b m n v d E hn hm hv
theorem Zmt (m n : Nat) (hn : n ≠ 0) (hm : m ≠ 0) : 9007199254740992 ≤ m * 2 ^ (54 + n.log2 - m.log2) / n:=by
 have h1:=Zd8 hm;have h2:=Zdw n;rw [Nat.le_div_iff_mul_le (by omega)]
 have h3 : 2 ^ (m.log2 + (54 + n.log2 - m.log2)) ≤ m * 2 ^ (54 + n.log2 - m.log2):=by
  rw [Nat.pow_add];exact Nat.mul_le_mul_right _ h1
 have h4 : (2 : Nat) ^ (53 + (n.log2 + 1)) ≤ 2 ^ (m.log2 + (54 + n.log2 - m.log2)):=Nat.pow_le_pow_right (by omega) (by omega);(have h5 : (2 : Nat) ^ (53 + (n.log2 + 1)) = 9007199254740992 * 2 ^ (n.log2 + 1):=by rw [Nat.pow_add]);have h6 : 9007199254740992 * n ≤ 9007199254740992 * 2 ^ (n.log2 + 1):=Nat.mul_le_mul_left _ (by omega);omega
theorem Znk {x y m n : Nat} {s t : Bool} {i j : Int} (hx : double.read x = .number s m i) (hy : double.read y = .number t n j) (hn : n ≠ 0) (hm : m ≠ 0) (u : Nat) (hu : 9007199254740992 ≤ m * 2 ^ u / n) : divT x y = double.nearest (s ^^ t) (quo m n u) (i - j - u - 1):=by
 unfold divT Format.div;rw [hx,hy];unfold Datum.quotient;simp only [if_neg hn,Option.map_some,Option.getD_some,Nat.shiftLeft_eq];rw [← quo_any (s ^^ t) m n (54 + n.log2 - m.log2) u (i - j) hn hm (Zmt m n hn hm) hu];unfold Format.write quo;simp only;have e : double.fractionBits + 2 = 54:=rfl;rw [e]
 congr 1
 rw [show (m * 2 ^ (54 + n.log2 - m.log2) % n != 0) = decide (m * 2 ^ (54 + n.log2 - m.log2) % n ≠ 0) by rw [Bool.eq_iff_iff];simp]
theorem div_zero {x y n : Nat} {s t : Bool} {i j : Int} (hx : double.read x = .number s 0 i) (hy : double.read y = .number t n j) (hn : n ≠ 0) : divT x y = enc (s ^^ t) 0:=by
 unfold divT Format.div;rw [hx,hy];unfold Datum.quotient;simp only [if_neg hn,Option.map_some,Option.getD_some,Nat.zero_shiftLeft,Nat.zero_div,Nat.zero_mod];unfold Format.write;simp only;exact ZcB _ _
end Go.Proofs.YtfoekmfpcahmiabGreatDoor.CG
namespace Go.Proofs.YtfoekmfpcahmiabGreatDoor.CH
open Ieee CR CF CG
def keyI (x : Nat) : Int:=if 9223372036854775808 ≤ x then -((x - 9223372036854775808 : Nat) : Int) else (x : Int)
def magV (m : Nat) (e : Int) : Nat:=m * 2 ^ (e + 1074).toNat
theorem Zpa {m n : Nat} {i j : Int} (hi : -1074 ≤ i) (hj : -1074 ≤ j) (hm : m < 9007199254740992) (hn : n < 9007199254740992) (hmi : i ≠ -1074 → 4503599627370496 ≤ m) (hnj : j ≠ -1074 → 4503599627370496 ≤ n)
  (h : (i + 1074).toNat * 4503599627370496 + m < (j + 1074).toNat * 4503599627370496 + n) : magV m i < magV n j:=by
 unfold magV;rcases Int.lt_trichotomy i j with h1 | h1 | h1
 ·have hn2:=hnj (by omega);have hp : 0 < 2 ^ (i + 1074).toNat:=Nat.pow_pos (by omega);have q1 : m * 2 ^ (i + 1074).toNat < 9007199254740992 * 2 ^ (i + 1074).toNat:=Nat.mul_lt_mul_of_pos_right hm hp;have q2 : (2 : Nat) ^ ((i + 1074).toNat + 1) ≤ 2 ^ (j + 1074).toNat:=Nat.pow_le_pow_right (by omega) (by omega);have q3 : 4503599627370496 * 2 ^ ((i + 1074).toNat + 1) ≤ n * 2 ^ (j + 1074).toNat:=Nat.mul_le_mul hn2 q2;rw [Nat.pow_succ] at q3;omega
 ·subst h1;exact Nat.mul_lt_mul_of_pos_right (by omega) (Nat.pow_pos (by omega))
 ·have:=hmi (by omega);omega
theorem mag_eq {m n : Nat} {i j : Int} (hi : -1074 ≤ i) (hj : -1074 ≤ j) (hm : m < 9007199254740992) (hn : n < 9007199254740992) (hmi : i ≠ -1074 → 4503599627370496 ≤ m) (hnj : j ≠ -1074 → 4503599627370496 ≤ n)
  (h : (i + 1074).toNat * 4503599627370496 + m = (j + 1074).toNat * 4503599627370496 + n) : m = n ∧ i = j:=by
 rcases Int.lt_trichotomy i j with h1 | h1 | h1
 ·have:=hnj (by omega);omega
 ·omega
 ·have:=hmi (by omega);omega
theorem Znt (a b : Int) (p : Nat) (hp : 0 < p) : compare (a * p) (b * p) = compare a b:=by
 (have hp' : (0 : Int) < p:=by omega);rcases Int.lt_trichotomy a b with h | h | h
 ·rw [Int.compare_eq_lt.2 h,Int.compare_eq_lt.2 (Int.mul_lt_mul_of_pos_right h hp')]
 ·subst h;rw [Int.compare_eq_eq.2 rfl,Int.compare_eq_eq.2 rfl]
 ·rw [Int.compare_eq_gt.2 h,Int.compare_eq_gt.2 (Int.mul_lt_mul_of_pos_right h hp')]
def sg (b : Bool) (v : Nat) : Int:=if b then -(v : Int) else (v : Int)
theorem ZhF (b : Bool) (r : Nat) (hr : r < 9223372036854775808) : keyI (enc b r) = sg b r:=by
 unfold keyI enc sg;cases b
 ·simp only [Bool.false_eq_true,if_false];rw [if_neg (by omega)]
 ·simp only [if_true];rw [if_pos (by omega),Nat.add_sub_cancel_left]
theorem sg_cmp (s t : Bool) (a b c d : Nat) (h1 : a < b ↔ c < d) (h2 : a = b ↔ c = d) (h3 : a = 0 ↔ c = 0) (h4 : b = 0 ↔ d = 0) : compare (sg s a) (sg t b) = compare (sg s c) (sg t d):=by
 have key : ∀ x y u v : Int,(x < y ↔ u < v) → (x = y ↔ u = v) → compare x y = compare u v:=by
  intro x y u v h1 h2;rcases Int.lt_trichotomy x y with h | h | h
  ·rw [Int.compare_eq_lt.2 h,Int.compare_eq_lt.2 (h1.1 h)]
  ·rw [Int.compare_eq_eq.2 h,Int.compare_eq_eq.2 (h2.1 h)]
  ·(have h5 : ¬ u < v:=fun h6 => by have:=h1.2 h6;omega);(have h6 : ¬ u = v:=fun h6 => by have:=h2.2 h6;omega);rw [Int.compare_eq_gt.2 h,Int.compare_eq_gt.2 (by omega)]
 apply key <;> unfold sg <;> cases s <;> cases t <;> simp <;> omega
theorem ZmB {x y m n : Nat} {s t : Bool} {i j : Int} (hxl : x < 18446744073709551616) (hyl : y < 18446744073709551616) (hx : double.read x = .number s m i) (hy : double.read y = .number t n j) : double.order x y = some (compare (keyI x) (keyI y)):=by
 obtain ⟨_,a1,a2,a3,a4,a5,a6⟩:=Zfu hxl hx;obtain ⟨_,b1,b2,b3,b4,b5,b6⟩:=Zfu hyl hy;unfold Format.order;rw [hx,hy];unfold Datum.order;simp only
 congr 1
 have hk : ∀ (b : Bool) (m : Nat) (e : Int),min i j ≤ e → signed b m (e - min i j).toNat * ((2 ^ (min i j + 1074).toNat : Nat) : Int) = sg b (magV m e):=by
  intro b m e he;rw [Zl5];unfold sg magV
  have : m * 2 ^ (e + 1074).toNat = m * 2 ^ (e - min i j).toNat * 2 ^ (min i j + 1074).toNat:=by
   rw [Nat.mul_assoc,← Nat.pow_add];congr 2;omega
  rw [this];cases b
  ·simp
  ·simp [Int.neg_mul]
 rw [← Znt _ _ (2 ^ (min i j + 1074).toNat) (Nat.pow_pos (by omega)),hk s m i (by omega),hk t n j (by omega),a5,b5,ZhF _ _ (by omega),ZhF _ _ (by omega)];have pi : 0 < 2 ^ (i + 1074).toNat:=Nat.pow_pos (by omega);have pj : 0 < 2 ^ (j + 1074).toNat:=Nat.pow_pos (by omega);have l1:=Zpa (m:=m) (n:=n) (i:=i) (j:=j) a2 b2 a1 b1 a4 b4;have l2:=Zpa (m:=n) (n:=m) (i:=j) (j:=i) b2 a2 b1 a1 b4 a4;have l3:=mag_eq (m:=m) (n:=n) (i:=i) (j:=j) a2 b2 a1 b1 a4 b4;(have z1 : magV m i = 0 ↔ m = 0:=by unfold magV;rw [Nat.mul_eq_zero];omega);have z2 : magV n j = 0 ↔ n = 0:=by unfold magV;rw [Nat.mul_eq_zero];omega
 have q3 : (i + 1074).toNat * 4503599627370496 + m = (j + 1074).toNat * 4503599627370496 + n → magV m i = magV n j:=by
  intro h;obtain ⟨h1,h2⟩:=l3 h;subst h1 h2;rfl
 clear a5 b5 hk hx hy hxl hyl l3 pi pj
 generalize magV m i = A at *
 generalize magV n j = B at *
 refine sg_cmp s t _ _ _ _ ?_ ?_ ?_ ?_
 ·constructor
  ·intro h;rcases Nat.lt_trichotomy ((i + 1074).toNat * 4503599627370496 + m) ((j + 1074).toNat * 4503599627370496 + n) with h1 | h1 | h1
   ·exact h1
   ·have h2:=q3 h1;exact absurd h (by rw [h2];exact Nat.lt_irrefl _)
   ·exact absurd h (Nat.lt_asymm (l2 h1))
  ·exact l1
 ·constructor
  ·intro h;rcases Nat.lt_trichotomy ((i + 1074).toNat * 4503599627370496 + m) ((j + 1074).toNat * 4503599627370496 + n) with h1 | h1 | h1
   ·exact absurd h (Nat.ne_of_lt (l1 h1))
   ·exact h1
   ·exact absurd h.symm (Nat.ne_of_lt (l2 h1))
  ·exact q3
 ·rw [z1];omega
 ·rw [z2];omega
def nanB (x : Nat) : Bool:=decide (9218868437227405312 < x % 9223372036854775808)
theorem Zfv {x : Nat} (hx : x < 18446744073709551616) : (∃ s f,double.read x = .nan s f) ↔ nanB x = true:=by
 unfold nanB;rw [Zfw x hx,decide_eq_true_iff];constructor
 ·rintro ⟨s,f,h⟩;split at h
  ·cases h
  ·split at h
   ·cases h
   ·split at h
    ·cases h
    ·omega
 ·intro h;rw [if_neg (by omega),if_neg (by omega),if_neg (by omega)];exact ⟨_,_,rfl⟩
theorem Zm4 {y n : Nat} {t : Bool} {j : Int} (hyl : y < 18446744073709551616) (hy : double.read y = .number t n j) : -9218868437227405312 < keyI y ∧ keyI y < 9218868437227405312:=by
 obtain ⟨_,b1,b2,b3,b4,b5,b6⟩:=Zfu hyl hy;rw [b5,ZhF _ _ (by omega)];unfold sg;cases t <;> simp <;> omega
theorem ZhG {x : Nat} {s : Bool} (hxl : x < 18446744073709551616) (hx : double.read x = .infinity s) : keyI x = sg s 9218868437227405312:=by
 rw [(Zhs hxl hx).2,ZhF _ _ (by omega)]
theorem Zhx (x y : Nat) (hxl : x < 18446744073709551616) (hyl : y < 18446744073709551616) : double.order x y = if nanB x = true ∨ nanB y = true then none else some (compare (keyI x) (keyI y)):=by
 have hnx:=Zfv hxl;have hny:=Zfv hyl
 cases hx : double.read x with
 | nan s f =>
  rw [if_pos (.inl (hnx.1 ⟨s,f,hx⟩))];unfold Format.order;rw [hx];rfl
 | infinity s =>
  have n1 : nanB x = false:=by
   cases h : nanB x
   ·rfl
   ·obtain ⟨_,_,h2⟩:=hnx.2 h;rw [hx] at h2;cases h2
  cases hy : double.read y with
  | nan t f =>
   rw [if_pos (.inr (hny.1 ⟨t,f,hy⟩))];unfold Format.order;rw [hx,hy];rfl
  | infinity t =>
   have n2 : nanB y = false:=by
    cases h : nanB y
    ·rfl
    ·obtain ⟨_,_,h2⟩:=hny.2 h;rw [hy] at h2;cases h2
   rw [if_neg (by simp [n1,n2]),ZhG hxl hx,ZhG hyl hy];unfold Format.order;rw [hx,hy];cases s <;> cases t <;> decide
  | number t n j =>
   have n2 : nanB y = false:=by
    cases h : nanB y
    ·rfl
    ·obtain ⟨_,_,h2⟩:=hny.2 h;rw [hy] at h2;cases h2
   rw [if_neg (by simp [n1,n2]),ZhG hxl hx];have hk:=Zm4 hyl hy;unfold Format.order;rw [hx,hy];cases s
   ·rw [Int.compare_eq_gt.2 (by unfold sg;simp;omega)];rfl
   ·rw [Int.compare_eq_lt.2 (by unfold sg;simp;omega)];rfl
 | number s m i =>
  have n1 : nanB x = false:=by
   cases h : nanB x
   ·rfl
   ·obtain ⟨_,_,h2⟩:=hnx.2 h;rw [hx] at h2;cases h2
  cases hy : double.read y with
  | nan t f =>
   rw [if_pos (.inr (hny.1 ⟨t,f,hy⟩))];unfold Format.order;rw [hx,hy];rfl
  | infinity t =>
   have n2 : nanB y = false:=by
    cases h : nanB y
    ·rfl
    ·obtain ⟨_,_,h2⟩:=hny.2 h;rw [hy] at h2;cases h2
   rw [if_neg (by simp [n1,n2]),ZhG hyl hy];have hk:=Zm4 hxl hx;unfold Format.order;rw [hx,hy];cases t
   ·rw [Int.compare_eq_lt.2 (by unfold sg;simp;omega)];rfl
   ·rw [Int.compare_eq_gt.2 (by unfold sg;simp;omega)];rfl
  | number t n j =>
   have n2 : nanB y = false:=by
    cases h : nanB y
    ·rfl
    ·obtain ⟨_,_,h2⟩:=hny.2 h;rw [hy] at h2;cases h2
   rw [if_neg (by simp [n1,n2])];exact ZmB hxl hyl hx hy
theorem Zfd (b : Bool) (r : Nat) (hr : r ≤ 9218868437227405312) : nanB (enc b r) = false ∧ enc b r < 18446744073709551616:=by
 unfold nanB enc;cases b
 ·simp only [Bool.false_eq_true,if_false];exact ⟨decide_eq_false (by omega),by omega⟩
 ·simp only [if_true];exact ⟨decide_eq_false (by omega),by omega⟩
theorem Zem (b : Bool) (m : Nat) (e : Int) : nanB (double.nearest b m e) = false ∧ double.nearest b m e < 18446744073709551616:=by
 by_cases h : m = 0
 ·subst h;rw [ZcB];exact Zfd b 0 (by omega)
 ·rw [Zdj b m e h];unfold ZcA;exact Zfd b _ (Nat.min_le_right ..)
theorem ZhW (d : Datum) (h : d.isNaN = false) : nanB (double.write d) = false ∧ double.write d < 18446744073709551616:=by
 cases d with
 | nan => cases h
 | infinity b => rw [ZfE];exact Zfd b _ (Nat.le_refl _)
 | number b m e => exact Zem b m e
theorem map_some {o : Option Datum} {r : Nat} (h : o.map double.write = some r) (hn : ∀ d,o = some d → d.isNaN = false) : nanB r = false ∧ r < 18446744073709551616:=by
  cases o with
  | none => cases h
  | some d => obtain rfl : double.write d = r := by simpa using h
              exact ZhW d (hn d rfl)
end Go.Proofs.YtfoekmfpcahmiabGreatDoor.CH
namespace Go.Proofs.YtfoekmfpcahmiabGreatDoor.CN
open Ieee CR CF CG CH
theorem enc_mod (b : Bool) (r : Nat) (hr : r < 9223372036854775808) : enc b r % 9223372036854775808 = r ∧ sgn (enc b r) = b ∧ enc b r < 18446744073709551616:=by
 unfold enc sgn;cases b
 ·simp only [Bool.false_eq_true,if_false];exact ⟨by omega,decide_eq_false (by omega),by omega⟩
 ·simp only [if_true];exact ⟨by omega,decide_eq_true (by omega),by omega⟩
theorem Zkb (b : Bool) (m : Nat) (e : Int) (hm : m < 9007199254740992) (he : -1074 ≤ e) (he2 : e ≤ 971) (hn : e ≠ -1074 → 4503599627370496 ≤ m) : double.read (enc b ((e + 1074).toNat * 4503599627370496 + m)) = .number b m e:=by
 obtain ⟨h1,h2,h3⟩:=enc_mod b ((e + 1074).toNat * 4503599627370496 + m) (by omega);rw [Zfw _ h3,h1,h2];(have g4 : ∀ y r : Nat,y % 9223372036854775808 = r → y % 4503599627370496 = r % 4503599627370496:=by intro y r h;omega);(have g5 : ∀ y r : Nat,y % 9223372036854775808 = r → y / 4503599627370496 % 2048 = r / 4503599627370496:=by intro y r h;omega);have h4:=g4 _ _ h1;have h5:=g5 _ _ h1;rw [h4,h5];clear h1 h2 h3 h4 h5 g4 g5;by_cases h : (e + 1074).toNat * 4503599627370496 + m < 4503599627370496
 ·have he3 : e = -1074:=by
   rcases Classical.em (e = -1074) with h6 | h6
   ·exact h6
   ·have:=hn h6;omega
  subst he3;rw [if_pos h]
  congr 1
  omega
 ·rw [if_neg h,if_pos (by omega)];rcases Nat.lt_or_ge m 4503599627370496 with hs | hs
  ·have he3 : e = -1074:=by
    rcases Classical.em (e = -1074) with h6 | h6
    ·exact h6
    ·have:=hn h6;omega
   subst he3;omega
  ·congr 1 <;> omega
theorem ZeC : double.read 4607182418800017408 = .number false 4503599627370496 (-52):=by decide
theorem mul_one (x : Nat) (hx : x < 18446744073709551616) (hn : nanB x = false) : mulT x 4607182418800017408 = x:=by
 cases hr : double.read x with
 | nan s f => rw [(Zfv hx).1 ⟨s,f,hr⟩] at hn;cases hn
 | infinity s =>
  unfold mulT Format.mul;rw [hr,ZeC];unfold Datum.product;simp only [if_neg (show ¬ (4503599627370496 : Nat) = 0 by omega),Option.map_some,Option.getD_some,Bool.xor_false];rw [ZfE,← (Zhs hx hr).2]
 | number s m i =>
  rw [mul_fin hr ZeC,Bool.xor_false];by_cases h : m = 0
  ·subst h;rw [Nat.zero_mul,ZcB,← ZeI hx hr,ZcB]
  ·have:=ZcN s m 52 i h;rw [show i + -52 = i - ((52 : Nat) : Int) by omega,show (4503599627370496 : Nat) = 2 ^ 52 from rfl,this,ZeI hx hr]
theorem div_one (x : Nat) (hx : x < 18446744073709551616) (hn : nanB x = false) : divT x 4607182418800017408 = x:=by
 cases hr : double.read x with
 | nan s f => rw [(Zfv hx).1 ⟨s,f,hr⟩] at hn;cases hn
 | infinity s =>
  unfold divT Format.div;rw [hr,ZeC];unfold Datum.quotient;simp only [Option.map_some,Option.getD_some,Bool.xor_false];rw [ZfE,← (Zhs hx hr).2]
 | number s m i =>
  by_cases h : m = 0
  ·subst h;rw [div_zero hr ZeC (by omega),Bool.xor_false,← ZeI hx hr,ZcB]
  ·have e52 : (4503599627370496 : Nat) = 2 ^ 52:=rfl
   have hdiv : m * 2 ^ 105 / 4503599627370496 = m * 2 ^ 53:=by
    rw [e52,show (105 : Nat) = 53 + 52 from rfl,Nat.pow_add,← Nat.mul_assoc];exact Nat.mul_div_cancel _ (Nat.pow_pos (by omega))
   have hmod : m * 2 ^ 105 % 4503599627370496 = 0:=by
    rw [e52,show (105 : Nat) = 53 + 52 from rfl,Nat.pow_add,← Nat.mul_assoc];exact Nat.mul_mod_left _ _
   have hq : quo m 4503599627370496 105 = m * 2 ^ 54:=by
    unfold quo;rw [hdiv,hmod,Nat.pow_succ 2 53];simp only [ne_eq,not_true_eq_false,decide_false,Bool.toNat_false];omega
   rw [Znk hr ZeC (by omega) h 105 (by rw [hdiv];have : 1 * 2 ^ 53 ≤ m * 2 ^ 53:=Nat.mul_le_mul_right _ (by omega);exact this),hq,Bool.xor_false];have:=ZcN s m 54 i h;rw [show i - -52 - ((105 : Nat) : Int) - 1 = i - ((54 : Nat) : Int) by omega,this,ZeI hx hr]
end Go.Proofs.YtfoekmfpcahmiabGreatDoor.CN
namespace Go.Proofs.YtfoekmfpcahmiabGreatDoor.CV
open Ieee CR CF CG CH CN
def wd (V : Nat) : Nat:=double.nearest false V (-1074)
def rep (V : Nat) : Prop := ∃ m e : Nat,m < 9007199254740992 ∧ V = m * 2 ^ e
def nm (V : Nat) : Nat:=if V.log2 ≤ 52 then V * 2 ^ (52 - V.log2) else V / 2 ^ (V.log2 - 52)
def fits (V : Nat) : Prop:=rep V ∧ V.log2 ≤ 2097
theorem Zmo {V : Nat} (h : rep V) (hL : 52 ≤ V.log2) : V = V / 2 ^ (V.log2 - 52) * 2 ^ (V.log2 - 52):=by
 obtain ⟨m,e,hm,rfl⟩:=h;by_cases h0 : m = 0
 ·subst h0;rw [Nat.zero_mul,Nat.zero_div,Nat.zero_mul]
 ·have hl : (m * 2 ^ e).log2 = m.log2 + e:=Zgf m e h0;have hm2 : m.log2 < 53:=ZeK hm h0;rw [hl];obtain ⟨c,hc⟩ : ∃ c,e = c + (m.log2 + e - 52):=⟨e - (m.log2 + e - 52),by omega⟩
  have e1 : m * 2 ^ e = m * 2 ^ c * 2 ^ (m.log2 + e - 52):=by
   conv => lhs;rw [hc]
   rw [Nat.pow_add,Nat.mul_assoc]
  rw [e1,Nat.mul_div_cancel _ (Nat.pow_pos (by omega))]
theorem Zkg {V : Nat} (h0 : V ≠ 0) : 4503599627370496 ≤ nm V ∧ nm V < 9007199254740992:=by
 have h1:=Zd8 h0;have h2:=Zdw V;unfold nm;by_cases h : V.log2 ≤ 52
 ·rw [if_pos h];constructor
  ·have : 2 ^ V.log2 * 2 ^ (52 - V.log2) ≤ V * 2 ^ (52 - V.log2):=Nat.mul_le_mul_right _ h1;rw [← Nat.pow_add,show V.log2 + (52 - V.log2) = 52 by omega] at this;exact this
  ·have : V * 2 ^ (52 - V.log2) < 2 ^ (V.log2 + 1) * 2 ^ (52 - V.log2):=Nat.mul_lt_mul_of_pos_right h2 (Nat.pow_pos (by omega));rw [← Nat.pow_add,show V.log2 + 1 + (52 - V.log2) = 53 by omega] at this;exact this
 ·rw [if_neg h];constructor
  ·refine (Nat.le_div_iff_mul_le (Nat.pow_pos (by omega))).2 ?_;rw [show (4503599627370496 : Nat) = 2 ^ 52 from rfl,← Nat.pow_add,show 52 + (V.log2 - 52) = V.log2 by omega];exact h1
  ·refine (Nat.div_lt_iff_lt_mul (Nat.pow_pos (by omega))).2 ?_;rw [show (9007199254740992 : Nat) = 2 ^ 53 from rfl,← Nat.pow_add,show 53 + (V.log2 - 52) = V.log2 + 1 by omega];exact h2
theorem wd_low {V : Nat} (h : V < 9007199254740992) : wd V = V ∧ double.read (wd V) = .number false V (-1074):=by
 have h1 : wd V = V:=by
  unfold wd;rw [Zga h (by omega) (by omega) (fun h => absurd rfl h) (fun _ => rfl)];unfold enc;simp
 have h2:=Zkb false V (-1074) h (by omega) (by omega) (fun h => absurd rfl h);refine ⟨h1,?_⟩;rw [h1];(have h3 : enc false ((-1074 + 1074 : Int).toNat * 4503599627370496 + V) = V:=by unfold enc;simp);rw [h3] at h2;exact h2
theorem wd_high {V : Nat} (h : fits V) (hL : 52 ≤ V.log2) : wd V = (V.log2 - 52) * 4503599627370496 + nm V ∧ double.read (wd V) = .number false (nm V) (V.log2 - 52 - 1074):=by
 (have h0 : V ≠ 0:=by intro hz;rw [hz] at hL;exact absurd hL (by decide));obtain ⟨r1,r2⟩:=Zkg h0;have hV:=Zmo h.1 hL
 have hn : nm V * 2 ^ (V.log2 - 52) = V:=by
  unfold nm;by_cases h52 : V.log2 ≤ 52
  ·rw [if_pos h52,show 52 - V.log2 = 0 by omega,show V.log2 - 52 = 0 by omega,Nat.pow_zero,Nat.mul_one,Nat.mul_one]
  ·rw [if_neg h52];exact hV.symm
 have hlim:=h.2;have hs:=ZcN false (nm V) (V.log2 - 52) (V.log2 - 52 - 1074) (by omega);rw [hn,show ((V.log2 : Int) - 52 - 1074 - ((V.log2 - 52 : Nat) : Int)) = -1074 by omega] at hs
 have h1 : wd V = enc false (((V.log2 : Int) - 52 - 1074 + 1074).toNat * 4503599627370496 + nm V):=by
  unfold wd;rw [hs,Zga r2 (by omega) (by omega) (fun _ => r1) (fun h => by omega)]
 constructor
 ·rw [h1];unfold enc;rw [if_neg (by simp),show ((V.log2 : Int) - 52 - 1074 + 1074).toNat = V.log2 - 52 by omega]
 ·rw [h1];exact Zkb false (nm V) _ r2 (by omega) (by omega) (fun _ => r1)
theorem wd_read {V : Nat} (h : fits V) : ∃ (m : Nat) (e : Int),double.read (wd V) = .number false m e ∧ -1074 ≤ e ∧ m * 2 ^ (e + 1074).toNat = V ∧ (V ≠ 0 → m ≠ 0):=by
 by_cases hL : 52 ≤ V.log2
 ·obtain ⟨_,h2⟩:=wd_high h hL;(have h0 : V ≠ 0:=by intro hz;rw [hz] at hL;exact absurd hL (by decide));have hV:=Zmo h.1 hL;refine ⟨_,_,h2,by omega,?_,fun _ => by have:=(Zkg h0).1;omega⟩;rw [show ((V.log2 : Int) - 52 - 1074 + 1074).toNat = V.log2 - 52 by omega];unfold nm;by_cases h52 : V.log2 ≤ 52
  ·rw [if_pos h52,show 52 - V.log2 = 0 by omega,show V.log2 - 52 = 0 by omega,Nat.pow_zero,Nat.mul_one,Nat.mul_one]
  ·rw [if_neg h52];exact hV.symm
 ·have hlt : V < 9007199254740992:=Nat.lt_of_lt_of_le (Zdw V) (Nat.le_trans (Nat.pow_le_pow_right (by omega) (show V.log2 + 1 ≤ 53 by omega)) (Nat.le_of_eq rfl));refine ⟨V,-1074,(wd_low hlt).2,by omega,?_,fun h => h⟩;rw [show (-1074 + 1074 : Int).toNat = 0 from rfl,Nat.pow_zero,Nat.mul_one]
theorem wd_lt (V : Nat) : wd V < 9223372036854775808:=by
 unfold wd;by_cases h : V = 0
 ·subst h;rw [ZcB];decide
 ·rw [Zdj false V _ h];unfold ZcA enc;rw [if_neg (by simp)];have:=Nat.min_le_right ((ZaA V (-1074) + 1074).toNat * 4503599627370496 + rne (V * 2 ^ (-1074 - ZaA V (-1074)).toNat) (ZaA V (-1074) - -1074).toNat) 9218868437227405312;omega
theorem ZiF {x y m n : Nat} {s t : Bool} {i j : Int} (hx : double.read x = .number s m i) (hy : double.read y = .number t n j) : double.mul x y = some (double.nearest (s ^^ t) (m * n) (i + j)):=by
 unfold Format.mul;rw [hx,hy];rfl
end Go.Proofs.YtfoekmfpcahmiabGreatDoor.CV
namespace Go.Proofs.YtfoekmfpcahmiabGreatDoor.US
def lp (p : Int) : Int:=p * 108853 / 32768
def U (p : Int) : Nat:=10 ^ p.toNat * 2 ^ (127 - lp p).toNat
def V (p : Int) : Nat:=2 ^ (lp p - 127).toNat * 10 ^ (-p).toNat
def pm (p : Int) : Nat:=(U p + V p - 1) / V p
def unr (A B : Nat) : Nat:=A / B ||| (if A % B = 0 then 0 else 1)
def usc (x hi lo s : Nat) : Nat :=
 if x * hi / 18446744073709551616 % 2 ^ s ≠ 0 then x * hi / 18446744073709551616 / 2 ^ s ||| 1
 else (if x * hi % 18446744073709551616 < x * lo / 18446744073709551616 then x * hi / 18446744073709551616 - 1 else x * hi / 18446744073709551616) / 2 ^ s |||
  (if 1 < (x * hi % 18446744073709551616 + 18446744073709551616 - x * lo / 18446744073709551616) % 18446744073709551616 then 1 else 0)
theorem ZlK {A B q : Nat} (h1 : q * B < A) (h2 : A < (q + 1) * B) : unr A B = q ||| 1:=by
  have hB : 0 < B := by rcases Nat.eq_zero_or_pos B with h | h; · subst h; simp at h2
                        · exact h
  have e : A / B = q:=by
    apply Nat.div_eq_of_lt_le
    · omega
    · exact h2
  have hm:=Nat.div_add_mod A B;rw [e,Nat.mul_comm] at hm;unfold unr;rw [e,if_neg (by omega)]
theorem unr_at {A B q : Nat} (hB : 0 < B) (h1 : A = q * B) : unr A B = q:=by
 subst h1;unfold unr;rw [Nat.mul_div_cancel _ hB,Nat.mul_mod_left,if_pos rfl];exact Nat.or_zero _
theorem in_of {A B q : Nat} {c V r x δ : Int} (hA : (A : Int) = V * (q * c + r) - x * δ) (hB : (B : Int) = c * V) (h1 : x * δ < V * r) (h2 : V * r ≤ V * c) (h3 : 0 < x * δ ∨ V * r < V * c) (h4 : 0 ≤ x * δ) : q * B < A ∧ A < (q + 1) * B:=by
 (have e1 : ((q * B : Nat) : Int) = V * (q * c):=by rw [Int.natCast_mul,hB,← Int.mul_assoc,Int.mul_comm]);(have e2 : (((q + 1) * B : Nat) : Int) = V * (q * c) + V * c:=by rw [Nat.add_mul,Nat.one_mul,Int.natCast_add,e1,hB,Int.mul_comm c V]);have e3 : (A : Int) = V * (q * c) + V * r - x * δ:=by rw [hA,Int.mul_add]
 generalize V * (q * c) = t at *
 constructor
 ·omega
 ·omega
theorem in_w {A B q x : Nat} {c V r δ : Int} (hA : (A : Int) = V * (q * c + r) - x * δ) (hB : (B : Int) = c * V) (hV : 0 < V) (hx : x < 18446744073709551616) (hd : 0 ≤ δ) (hd2 : δ < V) (h1 : 18446744073709551616 ≤ r) (h2 : r < c) : q * B < A ∧ A < (q + 1) * B:=by
 have p0 : 0 ≤ (x : Int) * δ:=Int.mul_nonneg (by omega) hd;have p1 : (x : Int) * δ ≤ x * V:=Int.mul_le_mul_of_nonneg_left (by omega) (by omega);have p2 : (x : Int) * V < 18446744073709551616 * V:=Int.mul_lt_mul_of_pos_right (by omega) hV;have p3 : 18446744073709551616 * V ≤ r * V:=Int.mul_le_mul_of_nonneg_right h1 (by omega);have p4 : V * r < V * c:=Int.mul_lt_mul_of_pos_left h2 hV;refine in_of (x:=(x : Int)) hA hB ?_ (by omega) (.inr p4) p0;rw [Int.mul_comm V r];omega
theorem usc_unr (x hi lo s U V c : Nat) (δ : Int) (hx : x < 18446744073709551616) (hlo : lo < 18446744073709551616) (hV : 0 < V) (hd : 0 ≤ δ) (hd2 : δ < V) (hc : c = 2 ^ s * 340282366920938463463374607431768211456)
  (hp : (V : Int) * (hi * 18446744073709551616 - lo) = U + δ)
  (near : ∀ (q : Nat) (r : Int),(x : Int) * (hi * 18446744073709551616 - lo) = q * c + r → -18446744073709551616 < r → r ≤ 18446744073709551616 → x * U = q * (c * V)) :
  usc x hi lo s = unr (x * U) (c * V):=by
 have hK : 1 ≤ 2 ^ s:=Nat.pow_pos (by omega)
 have hxl : x * lo / 18446744073709551616 ≤ 18446744073709551614:=by
  have h1 : x * lo ≤ 18446744073709551615 * 18446744073709551615:=Nat.mul_le_mul (by omega) (by omega);omega
 have e1 : (x : Int) * (hi * 18446744073709551616 - lo) = (x * hi : Nat) * 18446744073709551616 - (x * lo : Nat):=by
  rw [Int.mul_sub,← Int.mul_assoc,Int.natCast_mul,Int.natCast_mul]
 have eA : ((x * U : Nat) : Int) = V * ((x * hi : Nat) * 18446744073709551616 - (x * lo : Nat)) - x * δ:=by
  (have : (U : Int) = V * (hi * 18446744073709551616 - lo) - δ:=by omega);rw [Int.natCast_mul,this,Int.mul_sub,← e1,← Int.mul_assoc,← Int.mul_assoc,Int.mul_comm (x : Int) V]
 rw [e1] at near;have hB0 : ((c * V : Nat) : Int) = (c : Int) * V:=Int.natCast_mul _ _;(have hc0 : 340282366920938463463374607431768211456 ≤ c:=by rw [hc];exact Nat.le_mul_of_pos_left _ hK);have hBp : 0 < c * V:=Nat.mul_pos (by omega) hV;unfold usc
 have hq : x * hi / 18446744073709551616 / 2 ^ s * 2 ^ s + x * hi / 18446744073709551616 % 2 ^ s = x * hi / 18446744073709551616:=by
  have:=Nat.div_add_mod (x * hi / 18446744073709551616) (2 ^ s);rw [Nat.mul_comm] at this;exact this
 have hr:=Nat.mod_lt (x * hi / 18446744073709551616) hK
 have hqK : ∀ q rr : Nat,((q * 2 ^ s + rr : Nat) : Int) * 340282366920938463463374607431768211456 = q * (c : Int) + (rr : Int) * 340282366920938463463374607431768211456:=by
  intro q rr;rw [hc,Int.natCast_add,Int.natCast_mul,Int.natCast_mul,Int.add_mul,Int.mul_assoc];rfl
 have hrK : ∀ rr : Nat,rr < 2 ^ s → (rr : Int) * 340282366920938463463374607431768211456 ≤ (c : Int) - 340282366920938463463374607431768211456:=by
  intro rr h;(have : (rr + 1) * 340282366920938463463374607431768211456 ≤ c:=by rw [hc];exact Nat.mul_le_mul_right _ h);omega
 have hsub : 2 ^ s ∣ x * hi / 18446744073709551616 → (x * hi / 18446744073709551616 - 1) / 2 ^ s = x * hi / 18446744073709551616 / 2 ^ s - 1:=by
  rintro ⟨y,hy⟩;rw [hy,Nat.mul_div_cancel_left _ (by omega)];rcases Nat.eq_zero_or_pos y with h | h
  ·subst h;simp
  ·obtain ⟨z,rfl⟩ : ∃ z,y = z + 1:=⟨y - 1,by omega⟩;rw [Nat.mul_add,Nat.mul_one,show 2 ^ s * z + 2 ^ s - 1 = 2 ^ s - 1 + 2 ^ s * z by omega,Nat.add_mul_div_left _ _ (by omega),Nat.div_eq_of_lt (by omega)];omega
 have hqK':=hqK (x * hi / 18446744073709551616 / 2 ^ s) (x * hi / 18446744073709551616 % 2 ^ s);have hrK':=hrK (x * hi / 18446744073709551616 % 2 ^ s) hr;rw [hq] at hqK';clear hqK hrK hc hr hq
 generalize x * U = A at *
 generalize hgT : x * hi = T at *
 generalize hgL : x * lo = L at *
 generalize c * V = B at *
 generalize hgq : T / 18446744073709551616 / 2 ^ s = q at *
 generalize hgr : T / 18446744073709551616 % 2 ^ s = rr at *
 generalize hgqc : (q : Int) * c = qc at *
 have hmd : T % 18446744073709551616 < 18446744073709551616:=Nat.mod_lt _ (by omega);(have hxx : (T : Int) * 18446744073709551616 - L = qc + (rr * 340282366920938463463374607431768211456 + ((T % 18446744073709551616 : Nat) : Int) * 18446744073709551616 - L):=by omega);by_cases h0 : rr = 0
 ·rw [if_neg (by omega)];subst h0;by_cases h1 : T % 18446744073709551616 < L / 18446744073709551616
  ·rw [if_pos h1,if_pos (by omega),hsub (Nat.dvd_of_mod_eq_zero hgr)]
   have hq1 : 1 ≤ q:=by
    rcases Nat.eq_zero_or_pos q with hz | hz
    ·exfalso;subst hz;have p0 : 0 ≤ (x : Int) * δ:=Int.mul_nonneg (by omega) hd;have p1 : (V : Int) * ((T : Int) * 18446744073709551616 - L) < 0:=Int.mul_neg_of_pos_of_neg (by omega) (by omega);omega
    ·exact hz
   obtain ⟨q',rfl⟩ : ∃ q',q = q' + 1:=⟨q - 1,by omega⟩
   have hl:=in_w (A:=A) (B:=B) (q:=q') (x:=x) (c:=c) (V:=V) (r:=c + ((T % 18446744073709551616 : Nat) : Int) * 18446744073709551616 - L) (δ:=δ)
    (by rw [eA,hxx,← hgqc,Int.natCast_add,Int.add_mul];congr 2;omega) hB0 (by omega) hx hd hd2 (by omega) (by omega)
   rw [ZlK hl.1 hl.2,Nat.add_sub_cancel]
  ·rw [if_neg h1];by_cases h2 : 1 < (T % 18446744073709551616 + 18446744073709551616 - L / 18446744073709551616) % 18446744073709551616
   ·rw [if_pos h2,hgq];have hq3 : (T : Int) * 18446744073709551616 - L = qc + (((T % 18446744073709551616 : Nat) : Int) * 18446744073709551616 - L):=by omega
    have hl:=in_w (A:=A) (B:=B) (q:=q) (x:=x) (c:=c) (V:=V) (r:=((T % 18446744073709551616 : Nat) : Int) * 18446744073709551616 - L) (δ:=δ)
     (by rw [eA,hgqc,← hq3]) hB0 (by omega) hx hd hd2 (by omega) (by omega)
    rw [ZlK hl.1 hl.2]
   ·rw [if_neg h2,Nat.or_zero,hgq];have hn:=near q (((T % 18446744073709551616 : Nat) : Int) * 18446744073709551616 - L) (by omega) (by omega) (by omega);rw [unr_at hBp hn]
 ·rw [if_pos h0]
  have hl:=in_w (A:=A) (B:=B) (q:=q) (x:=x) (c:=c) (V:=V) (r:=rr * 340282366920938463463374607431768211456 + ((T % 18446744073709551616 : Nat) : Int) * 18446744073709551616 - L) (δ:=δ)
   (by rw [eA,hxx,hgqc]) hB0 (by omega) hx hd hd2 (by omega) (by omega)
  rw [ZlK hl.1 hl.2]
def euc : Nat → Nat → Nat → Nat → Nat → Nat → Nat × Nat × Nat × Nat
 | 0,_,x1,r1,x2,r2 => (x1,r1,x2,r2)
 | n + 1,X,x1,r1,x2,r2 =>
  bif Nat.ble X (x1 + x2) then (x1,r1,x2,r2)
  else bif Nat.ble r2 r1 then euc n X (x1 + min (r1 / r2) ((X - x1) / x2) * x2) (r1 - min (r1 / r2) ((X - x1) / x2) * r2) x2 r2
  else euc n X x1 r1 (x2 + min (r2 / r1) ((X - x2) / x1) * x1) (r2 - min (r2 / r1) ((X - x2) / x1) * r1)
def farB (P M X L W : Nat) (q : Nat × Nat × Nat × Nat) : Bool :=
 Nat.beq q.2.1 (q.1 * P % M) && Nat.beq ((q.2.2.1 * P + q.2.2.2) % M) 0 && Nat.beq (q.1 * q.2.2.2 + q.2.2.1 * q.2.1) M && Nat.ble X (q.1 + q.2.2.1) && Nat.ble 1 M &&
 (Nat.ble (W + 1) q.2.1 || Nat.ble (W * q.1 + 1) (q.2.1 * L)) && (Nat.ble (W + 1) q.2.2.2 || Nat.ble (W * q.2.2.1 + 1) (q.2.2.2 * L))
theorem Zm8 {P M X L W x1 r1 x2 r2 : Nat} (h : farB P M X L W (x1,r1,x2,r2) = true) (x : Nat) (N R : Int) (hL : L ≤ x) (hX : x < X) (hx : 0 < x) (e : (x : Int) * P = N * M + R) (h1 : -(W : Int) < R) (h2 : R ≤ W) : False:=by
  unfold farB at h;simp only [Bool.and_eq_true,Nat.beq_eq,Nat.ble_eq,Bool.or_eq_true] at h;obtain ⟨⟨⟨⟨⟨⟨a1,a2⟩,a3⟩,a4⟩,a0⟩,a5⟩,a6⟩:=h
  obtain ⟨b1,hb1⟩ : ∃ b1 : Int,(x1 : Int) * P = b1 * M + r1:=⟨(x1 * P / M : Nat),by
    have:=Nat.div_add_mod (x1 * P) M;rw [← a1,Nat.mul_comm] at this
    rw [← Int.natCast_mul,← Int.natCast_mul,← Int.natCast_add,this]⟩
  obtain ⟨b2,hb2⟩ : ∃ b2 : Int,(x2 : Int) * P + r2 = b2 * M:=⟨((x2 * P + r2) / M : Nat),by
    have:=Nat.div_add_mod (x2 * P + r2) M;rw [a2,Nat.mul_comm,Nat.add_zero] at this
    rw [← Int.natCast_mul,← Int.natCast_mul,← Int.natCast_add,this]⟩
  (have a3' : (x1 : Int) * r2 + x2 * r1 = M:=by rw [← Int.natCast_mul,← Int.natCast_mul,← Int.natCast_add,a3]);have hM : (0 : Int) < M:=by omega
  have hdet : (x1 : Int) * b2 - x2 * b1 = 1:=by
    have : ((x1 : Int) * b2 - x2 * b1) * M = 1 * M:=by
      calc ((x1 : Int) * b2 - x2 * b1) * M = x1 * (b2 * M) - x2 * (b1 * M):=by rw [Int.sub_mul,Int.mul_assoc,Int.mul_assoc]
        _ = x1 * (x2 * P + r2) - x2 * (x1 * P - r1):=by rw [← hb2,show b1 * (M : Int) = x1 * P - r1 by omega]
        _ = x1 * r2 + x2 * r1:=by rw [Int.mul_add,Int.mul_sub,← Int.mul_assoc,← Int.mul_assoc,Int.mul_comm (x1 : Int) x2];omega
        _ = 1 * M:=by omega
    exact Int.eq_of_mul_eq_mul_right (by omega) this
  obtain ⟨u,hu⟩ : ∃ u : Int,u = x * b2 - x2 * N:=⟨_,rfl⟩;obtain ⟨v,hv⟩ : ∃ v : Int,v = x1 * N - x * b1:=⟨_,rfl⟩
  have ex : u * x1 + v * x2 = x:=by
    calc u * x1 + v * x2 = x * (x1 * b2 - x2 * b1) := by
          rw [hu,hv,Int.sub_mul,Int.sub_mul,Int.mul_sub];(have t1 : (x : Int) * b2 * x1 = x * (x1 * b2):=by rw [Int.mul_assoc,Int.mul_comm b2]);(have t2 : (x2 : Int) * N * x1 = x1 * N * x2:=by rw [Int.mul_comm _ (x1 : Int),Int.mul_assoc,← Int.mul_assoc,Int.mul_comm _ N,← Int.mul_assoc,← Int.mul_assoc,Int.mul_comm N]);(have t3 : (x : Int) * b1 * x2 = x * (x2 * b1):=by rw [Int.mul_assoc,Int.mul_comm b1]);rw [t1,t2,t3];omega
      _ = x:=by rw [hdet,Int.mul_one]
  have eN : u * b1 + v * b2 = N:=by
    calc u * b1 + v * b2 = N * (x1 * b2 - x2 * b1) := by
          rw [hu,hv,Int.sub_mul,Int.sub_mul,Int.mul_sub];(have t1 : (x : Int) * b2 * b1 = x * b1 * b2:=by rw [Int.mul_assoc,Int.mul_comm b2,← Int.mul_assoc]);(have t2 : (x2 : Int) * N * b1 = N * (x2 * b1):=by rw [Int.mul_comm (x2 : Int),Int.mul_assoc]);(have t3 : (x1 : Int) * N * b2 = N * (x1 * b2):=by rw [Int.mul_comm (x1 : Int),Int.mul_assoc]);rw [t1,t2,t3];omega
      _ = N:=by rw [hdet,Int.mul_one]
  have eR : u * r1 - v * r2 = R:=by
    (have q1 : (r1 : Int) = x1 * P - b1 * M:=by omega);(have q2 : (r2 : Int) = b2 * M - x2 * P:=by omega);(have q3 : R = (u * x1 + v * x2) * P - (u * b1 + v * b2) * M:=by rw [ex,eN];omega);rw [q3,q1,q2,Int.mul_sub,Int.mul_sub,Int.add_mul,Int.add_mul,Int.mul_assoc,Int.mul_assoc,Int.mul_assoc,Int.mul_assoc];omega
  (have x1p : (0 : Int) ≤ x1:=by omega);(have x2p : (0 : Int) ≤ x2:=by omega);(have r1p : (0 : Int) ≤ r1:=by omega);(have r2p : (0 : Int) ≤ r2:=by omega);rcases Int.lt_or_le 0 u with hu0 | hu0
  · rcases Int.lt_or_le 0 v with hv0 | hv0
    · have t1 : 1 * (x1 : Int) ≤ u * x1:=Int.mul_le_mul_of_nonneg_right hu0 x1p;have t2 : 1 * (x2 : Int) ≤ v * x2:=Int.mul_le_mul_of_nonneg_right hv0 x2p;omega
    · have t1 : v * x2 ≤ 0:=Int.mul_nonpos_of_nonpos_of_nonneg hv0 x2p;have t2 : v * r2 ≤ 0:=Int.mul_nonpos_of_nonpos_of_nonneg hv0 r2p;rcases a5 with a5 | a5
      · have t3 : 1 * (r1 : Int) ≤ u * r1:=Int.mul_le_mul_of_nonneg_right hu0 r1p;omega
      · (have t3 : (L : Int) ≤ u * x1:=by omega);have t4 : (r1 : Int) * L ≤ r1 * (u * x1):=Int.mul_le_mul_of_nonneg_left t3 r1p;(have t5 : (W : Int) * x1 < r1 * L:=by rw [← Int.natCast_mul,← Int.natCast_mul];omega);(have t6 : (r1 : Int) * (u * x1) = u * r1 * x1:=by rw [← Int.mul_assoc,Int.mul_comm (r1 : Int)]);have t7 : (u * r1) * x1 ≤ W * x1:=Int.mul_le_mul_of_nonneg_right (by omega) x1p;omega
  · rcases Int.lt_or_le 0 v with hv0 | hv0
    · have t1 : u * x1 ≤ 0:=Int.mul_nonpos_of_nonpos_of_nonneg hu0 x1p;have t2 : u * r1 ≤ 0:=Int.mul_nonpos_of_nonpos_of_nonneg hu0 r1p;rcases a6 with a6 | a6
      · have t3 : 1 * (r2 : Int) ≤ v * r2:=Int.mul_le_mul_of_nonneg_right hv0 r2p;omega
      · (have t3 : (L : Int) ≤ v * x2:=by omega);have t4 : (r2 : Int) * L ≤ r2 * (v * x2):=Int.mul_le_mul_of_nonneg_left t3 r2p;(have t5 : (W : Int) * x2 < r2 * L:=by rw [← Int.natCast_mul,← Int.natCast_mul];omega);(have t6 : (r2 : Int) * (v * x2) = v * r2 * x2:=by rw [← Int.mul_assoc,Int.mul_comm (r2 : Int)]);have t7 : (v * r2) * x2 ≤ W * x2:=Int.mul_le_mul_of_nonneg_right (by omega) x2p;omega
    · have t1 : v * x2 ≤ 0:=Int.mul_nonpos_of_nonpos_of_nonneg hv0 x2p;have t2 : u * x1 ≤ 0:=Int.mul_nonpos_of_nonpos_of_nonneg hu0 x1p;omega
def Znd (p : Int) : Bool :=
 Nat.beq (U p % 2 ^ (if p < 0 then 128 + (-p).toNat else 65)) 0 && Nat.beq (340282366920938463463374607431768211456 * V p % 2 ^ (if p < 0 then 128 + (-p).toNat else 65)) 0 && Nat.ble (36893488147419103232 * V p) (2 ^ (if p < 0 then 128 + (-p).toNat else 65))
def Zo7 (p : Int) : Bool :=
 Znd p || farB (pm p) (2 ^ 136) (2 ^ 64) (2 ^ 63) (2 ^ 64) (euc 300 (2 ^ 64) 1 (pm p % 2 ^ 136) 0 (2 ^ 136))
theorem Zmw : (List.range 696).all (fun i => Zo7 ((i : Int) - 348)) = true:=by decide +kernel
theorem V_pos (p : Int) : 0 < V p:=Nat.mul_pos (Nat.pow_pos (by omega)) (Nat.pow_pos (by omega))
theorem pm_up (p : Int) : ∃ δ : Int,0 ≤ δ ∧ δ < V p ∧ (V p : Int) * pm p = U p + δ:=by
 have hV:=V_pos p;unfold pm
 generalize V p = v at *
 generalize U p = u at *
 refine ⟨(v * ((u + v - 1) / v) : Nat) - u,?_,?_,?_⟩
 ·have:=Nat.div_add_mod (u + v - 1) v;have:=Nat.mod_lt (u + v - 1) hV;omega
 ·have:=Nat.div_add_mod (u + v - 1) v;omega
 ·rw [Int.natCast_mul];omega
theorem ZjJ {G D : Int} (hG : G ∣ D) (h1 : -G < D) (h2 : D < G) : D = 0:=by
 obtain ⟨k,rfl⟩:=hG;rcases Int.lt_trichotomy k 0 with h | h | h
 ·exfalso;have : G * 1 ≤ G * (-k):=Int.mul_le_mul_of_nonneg_left (by omega) (by omega);rw [Int.mul_neg] at this;omega
 ·rw [h,Int.mul_zero]
 ·exfalso;have : G * 1 ≤ G * k:=Int.mul_le_mul_of_nonneg_left (by omega) (by omega);omega
theorem Zlq {p : Int} (h : Znd p = true) (x s c q : Nat) (r : Int) (hx : x < 18446744073709551616) (hc : c = 2 ^ s * 340282366920938463463374607431768211456)
  (e : (x : Int) * pm p = q * c + r) (h1 : -18446744073709551616 < r) (h2 : r ≤ 18446744073709551616) : x * U p = q * (c * V p):=by
 obtain ⟨δ,d1,d2,d3⟩:=pm_up p;have hV:=V_pos p;unfold Znd at h;generalize (2 ^ (if p < 0 then 128 + (-p).toNat else 65) : Nat) = G at h;simp only [Bool.and_eq_true,Nat.beq_eq,Nat.ble_eq] at h;obtain ⟨⟨a1,a2⟩,a3⟩:=h;have g1 : (G : Int) ∣ (x : Int) * U p:=Int.dvd_mul_of_dvd_right (Int.natCast_dvd_natCast.2 (Nat.dvd_of_mod_eq_zero a1))
 have g2 : (G : Int) ∣ (q : Int) * (c * V p : Nat):=by
  apply Int.dvd_mul_of_dvd_right;rw [hc,Nat.mul_assoc];exact Int.natCast_dvd_natCast.2 (Nat.dvd_trans (Nat.dvd_of_mod_eq_zero a2) (Nat.dvd_mul_left _ _))
 have eD : (x : Int) * U p - (q : Int) * (c * V p : Nat) = V p * r - x * δ:=by
  (have e1 : (V p : Int) * (x * pm p) = V p * (q * c + r):=by rw [e]);rw [← Int.mul_assoc,Int.mul_comm (V p : Int) x,Int.mul_assoc,d3,Int.mul_add,Int.mul_add] at e1;rw [Int.natCast_mul,show (q : Int) * ((c : Int) * V p) = V p * (q * c) by rw [Int.mul_comm (c : Int),← Int.mul_assoc,Int.mul_comm (q : Int),Int.mul_assoc]];omega
 have p0 : 0 ≤ (x : Int) * δ:=Int.mul_nonneg (by omega) d1;have p1 : (x : Int) * δ ≤ x * V p:=Int.mul_le_mul_of_nonneg_left (by omega) (by omega);have p2 : (x : Int) * V p < 18446744073709551616 * V p:=Int.mul_lt_mul_of_pos_right (by omega) (by omega);have p3 : (V p : Int) * r ≤ V p * 18446744073709551616:=Int.mul_le_mul_of_nonneg_left h2 (by omega);have p4 : (V p : Int) * (-18446744073709551616) < V p * r:=Int.mul_lt_mul_of_pos_left h1 (by omega);have hz:=ZjJ (Int.dvd_sub g1 g2) (by rw [eD];omega) (by rw [eD];omega);(have : ((x * U p : Nat) : Int) = ((q * (c * V p) : Nat) : Int):=by rw [Int.natCast_mul,Int.natCast_mul];omega);exact Int.ofNat_inj.1 this
theorem ZoB {p : Int} {s0 g : Nat} {Q : Nat × Nat × Nat × Nat} {X L : Nat} (h : farB (2 ^ g * pm p) (2 ^ (128 + s0)) X L (2 ^ 64) Q = true) (x x' s c q : Nat) (r : Int) (hs : s0 ≤ s) (hL : L ≤ x') (hX : x' < X) (h0 : 0 < x') (hx : x = 2 ^ g * x') (hc : c = 2 ^ s * 340282366920938463463374607431768211456)
  (e : (x : Int) * pm p = q * c + r) (h1 : -18446744073709551616 < r) (h2 : r ≤ 18446744073709551616) : x * U p = q * (c * V p):=by
 exfalso;obtain ⟨x1,r1,x2,r2⟩:=Q;refine Zm8 h x' (q * (2 ^ (s - s0) : Nat)) r hL hX h0 ?_ (by omega) (by omega)
 have e1 : (c : Int) = ((2 ^ (s - s0) : Nat) : Int) * ((2 ^ (128 + s0) : Nat) : Int):=by
  rw [← Int.natCast_mul,← Nat.pow_add,hc,show s - s0 + (128 + s0) = s + 128 by omega,Nat.pow_add]
 rw [Int.mul_assoc,← e1,← e,hx,Int.natCast_mul,Int.natCast_mul,Int.mul_comm ((2 ^ g : Nat) : Int) x',Int.mul_assoc]
theorem Zla (p : Int) (hp1 : -348 ≤ p) (hp2 : p ≤ 347) (x s c q : Nat) (r : Int) (hs : 8 ≤ s) (hx0 : 9223372036854775808 ≤ x) (hx : x < 18446744073709551616) (hc : c = 2 ^ s * 340282366920938463463374607431768211456)
  (e : (x : Int) * pm p = q * c + r) (h1 : -18446744073709551616 < r) (h2 : r ≤ 18446744073709551616) : x * U p = q * (c * V p):=by
 have h:=List.all_eq_true.1 Zmw (p + 348).toNat (List.mem_range.2 (by omega));rw [show (((p + 348).toNat : Nat) : Int) - 348 = p by omega] at h;unfold Zo7 at h;rw [Bool.or_eq_true] at h;rcases h with h | h
 ·exact Zlq h x s c q r hx hc e h1 h2
 ·refine ZoB (p:=p) (s0:=8) (g:=0) (Q:=euc 300 (2 ^ 64) 1 (pm p % 2 ^ 136) 0 (2 ^ 136)) (X:=2 ^ 64) (L:=2 ^ 63) (by rw [Nat.pow_zero,Nat.one_mul];exact h) x x s c q r hs (by omega) (by omega) (by omega) (by rw [Nat.pow_zero,Nat.one_mul]) hc e h1 h2
end Go.Proofs.YtfoekmfpcahmiabGreatDoor.US
namespace Go.Proofs.YtfoekmfpcahmiabGreatDoor.CQ
open Ieee CR CF CG
def rneQ (A B : Nat) : Nat:=A / B + if B < 2 * (A % B) ∨ (B = 2 * (A % B) ∧ A / B % 2 = 1) then 1 else 0
theorem p52 : (4503599627370496 : Nat) = 2 ^ 52:=by decide
theorem p53 : (9007199254740992 : Nat) = 2 ^ 53:=by decide
theorem Zj8 (n d : Nat) : rneQ n (2 ^ d) = rne n d:=rfl
theorem Zj9 (n : Nat) : rneQ n 1 = n:=by
 have:=Zcv n;rw [← Zj8,Nat.pow_zero] at this;exact this
theorem Zcl (A B k : Nat) (hk : 0 < k) : rneQ (A * k) (B * k) = rneQ A B:=by
 unfold rneQ;rw [Nat.mul_div_mul_right _ _ hk,Nat.mul_mod_mul_right,← Nat.mul_assoc];have e1 : B * k < 2 * (A % B) * k ↔ B < 2 * (A % B):=Nat.mul_lt_mul_right hk;have e2 : B * k = 2 * (A % B) * k ↔ B = 2 * (A % B):=Nat.mul_left_inj (by omega);simp only [e1,e2]
def Zfi (A B w : Nat) : Prop := ∃ j : Nat,A < 9007199254740992 * (B * 2 ^ j) ∧ (j ≠ 0 → 4503599627370496 * (B * 2 ^ j) ≤ A) ∧ w = min (j * 4503599627370496 + rneQ A (B * 2 ^ j)) 9218868437227405312
theorem Zgd {A B j k : Nat} (h1 : A < 9007199254740992 * (B * 2 ^ j)) (h2 : k ≠ 0 → 4503599627370496 * (B * 2 ^ k) ≤ A) : k ≤ j:=by
 rcases Nat.lt_or_ge j k with h | h
 ·exfalso;have h3:=h2 (by omega);have h4 : B * 2 ^ (j + 1) ≤ B * 2 ^ k:=Nat.mul_le_mul_left _ (Nat.pow_le_pow_right (by omega) h);rw [Nat.pow_succ,← Nat.mul_assoc] at h4;omega
 ·exact h
theorem ZmN {A B v w : Nat} (hv : Zfi A B v) (hw : Zfi A B w) : v = w:=by
 obtain ⟨j,a1,a2,a3⟩:=hv;obtain ⟨k,b1,b2,b3⟩:=hw;obtain rfl : j = k:=Nat.le_antisymm (Zgd b1 a2) (Zgd a1 b2);rw [a3,b3]
theorem Zgc {A B w k : Nat} (hk : 0 < k) : Zfi (A * k) (B * k) w ↔ Zfi A B w:=by
 unfold Zfi;(have e : ∀ j,B * k * 2 ^ j = B * 2 ^ j * k:=fun j => by rw [Nat.mul_assoc,Nat.mul_comm k,← Nat.mul_assoc]);simp only [e,Zcl _ _ k hk];(have e1 : ∀ j,A * k < 9007199254740992 * (B * 2 ^ j * k) ↔ A < 9007199254740992 * (B * 2 ^ j):=fun j => by rw [← Nat.mul_assoc];exact Nat.mul_lt_mul_right hk);(have e2 : ∀ j,4503599627370496 * (B * 2 ^ j * k) ≤ A * k ↔ 4503599627370496 * (B * 2 ^ j) ≤ A:=fun j => by rw [← Nat.mul_assoc];exact Nat.mul_le_mul_right_iff hk);simp only [e1,e2]
theorem ZiD {A B : Nat} (hB : 0 < B) : ∃ w,Zfi A B w:=by
  have hex : ∃ j,A < 9007199254740992 * (B * 2 ^ j):=⟨A,by
    have h1 : A < 2 ^ A:=Nat.lt_two_pow_self;have h2 : 1 * 2 ^ A ≤ B * 2 ^ A:=Nat.mul_le_mul_right _ hB
    omega⟩
  have : ∀ n,(∃ j,j ≤ n ∧ A < 9007199254740992 * (B * 2 ^ j)) → ∃ j,A < 9007199254740992 * (B * 2 ^ j) ∧ (j ≠ 0 → ¬ A < 9007199254740992 * (B * 2 ^ (j - 1))):=by
    intro n
    induction n with
    | zero => rintro ⟨j, h, h1⟩; obtain rfl : j = 0 := by omega
              exact ⟨0,h1,fun h => absurd rfl h⟩
    | succ n ih =>
      rintro ⟨j,h,h1⟩;by_cases hs : A < 9007199254740992 * (B * 2 ^ n)
      · exact ih ⟨n,Nat.le_refl _,hs⟩
      · by_cases hj : j ≤ n
        · exact ih ⟨j,hj,h1⟩
        · (obtain rfl : j = n + 1:=by omega);exact ⟨n + 1,h1,fun _ => hs⟩
  obtain ⟨j0,hj0⟩:=hex;obtain ⟨j,h1,h2⟩:=this j0 ⟨j0,Nat.le_refl _,hj0⟩;refine ⟨_,j,h1,fun h0 => ?_,rfl⟩;have h3:=h2 h0;obtain ⟨i,rfl⟩ : ∃ i,j = i + 1:=⟨j - 1,by omega⟩;rw [Nat.add_sub_cancel] at h3;(have e : B * 2 ^ (i + 1) = 2 * (B * 2 ^ i):=by rw [Nat.pow_succ];ac_rfl);rw [e];omega
def ZbB (A B : Nat) (E : Int) (w : Nat) : Prop:=Zfi (A * 2 ^ (E + 1074).toNat) (B * 2 ^ (-(E + 1074)).toNat) w
theorem ZdF {A B v w : Nat} {E : Int} (hv : ZbB A B E v) (hw : ZbB A B E w) : v = w:=ZmN hv hw
theorem pow_pos (n : Nat) : 0 < 2 ^ n:=Nat.pow_pos (by omega)
theorem Zle {A B C D w : Nat} (hB : 0 < B) (hD : 0 < D) (h : A * D = C * B) : Zfi A B w ↔ Zfi C D w:=by
 rw [← Zgc (A:=A) (B:=B) hD,← Zgc (A:=C) (B:=D) hB,h,Nat.mul_comm B D]
theorem Zcu {A B C D w : Nat} {E F : Int} (hB : 0 < B) (hD : 0 < D) (a b : Nat) (hab : E + a = F + b) (h : A * 2 ^ b * D = C * 2 ^ a * B) : ZbB A B E w ↔ ZbB C D F w:=by
 unfold ZbB;refine Zle (Nat.mul_pos hB (pow_pos _)) (Nat.mul_pos hD (pow_pos _)) ?_;have hp : 0 < 2 ^ (a + b):=pow_pos _;apply Nat.eq_of_mul_eq_mul_right hp
 have e1 : A * 2 ^ (E + 1074).toNat * (D * 2 ^ (-(F + 1074)).toNat) * 2 ^ (a + b) = (A * 2 ^ b * D) * 2 ^ ((E + 1074).toNat + (-(F + 1074)).toNat + a):=by
  rw [Nat.pow_add 2 a b,Nat.pow_add,Nat.pow_add];ac_rfl
 have e2 : C * 2 ^ (F + 1074).toNat * (B * 2 ^ (-(E + 1074)).toNat) * 2 ^ (a + b) = (C * 2 ^ a * B) * 2 ^ ((F + 1074).toNat + (-(E + 1074)).toNat + b):=by
  rw [Nat.pow_add 2 a b,Nat.pow_add,Nat.pow_add];ac_rfl
 rw [e1,e2,h]
 congr 2
 omega
theorem Zdk {A B w : Nat} {E : Int} (j : Nat) (h1 : A * 2 ^ (E + 1074 - j).toNat < 9007199254740992 * (B * 2 ^ (j - (E + 1074)).toNat)) (h2 : j ≠ 0 → 4503599627370496 * (B * 2 ^ (j - (E + 1074)).toNat) ≤ A * 2 ^ (E + 1074 - j).toNat)
  (h3 : w = min (j * 4503599627370496 + rneQ (A * 2 ^ (E + 1074 - j).toNat) (B * 2 ^ (j - (E + 1074)).toNat)) 9218868437227405312) : ZbB A B E w:=by
 unfold ZbB;(have hk : (E + 1074 - j).toNat + (j + (-(E + 1074)).toNat) = (j - (E + 1074)).toNat + (E + 1074).toNat:=by omega);obtain ⟨k,hk1,hk2⟩ : ∃ k : Nat,(E + 1074).toNat = (E + 1074 - j).toNat + k ∧ (-(E + 1074)).toNat + j = (j - (E + 1074)).toNat + k:=⟨min (E + 1074).toNat j,by omega,by omega⟩;(have eA : A * 2 ^ (E + 1074).toNat = A * 2 ^ (E + 1074 - j).toNat * 2 ^ k:=by rw [hk1,Nat.pow_add,Nat.mul_assoc]);(have eB : B * 2 ^ (-(E + 1074)).toNat * 2 ^ j = B * 2 ^ (j - (E + 1074)).toNat * 2 ^ k:=by rw [Nat.mul_assoc,← Nat.pow_add,hk2,Nat.pow_add,Nat.mul_assoc]);refine ⟨j,?_,?_,?_⟩
 ·rw [eA,eB,← Nat.mul_assoc];exact (Nat.mul_lt_mul_right (pow_pos k)).2 h1
 ·intro h;rw [eA,eB,← Nat.mul_assoc];exact Nat.mul_le_mul_right _ (h2 h)
 ·rw [eA,eB,Zcl _ _ _ (pow_pos k)];exact h3
theorem Zf6 (last : Int) (kept : Nat) : ZcA false last kept = min ((last + 1074).toNat * 4503599627370496 + kept) 9218868437227405312:=by
 unfold ZcA enc;simp only [Bool.false_eq_true,if_false]
theorem Zc3 {M : Nat} {E : Int} (h : M ≠ 0) : ZbB M 1 E (double.nearest false M E):=by
 have hl:=Zdw M;have hg:=Zd8 h;(have hlast : -1074 ≤ ZaA M E:=by unfold ZaA;omega);refine Zdk (ZaA M E + 1074).toNat ?_ ?_ ?_
 ·rw [Nat.one_mul,show (E + 1074 - ((ZaA M E + 1074).toNat : Nat)).toNat = (E - ZaA M E).toNat by omega,show (((ZaA M E + 1074).toNat : Nat) - (E + 1074)).toNat = (ZaA M E - E).toNat by omega];have h1 : M * 2 ^ (E - ZaA M E).toNat < 2 ^ (M.log2 + 1) * 2 ^ (E - ZaA M E).toNat:=(Nat.mul_lt_mul_right (pow_pos _)).2 hl;rw [← Nat.pow_add] at h1;refine Nat.lt_of_lt_of_le h1 ?_;rw [p53,← Nat.pow_add];exact Nat.pow_le_pow_right (by omega) (by unfold ZaA;omega)
 ·intro hne;rw [Nat.one_mul,show (E + 1074 - ((ZaA M E + 1074).toNat : Nat)).toNat = (E - ZaA M E).toNat by omega,show (((ZaA M E + 1074).toNat : Nat) - (E + 1074)).toNat = (ZaA M E - E).toNat by omega];have h1 : 2 ^ M.log2 * 2 ^ (E - ZaA M E).toNat ≤ M * 2 ^ (E - ZaA M E).toNat:=Nat.mul_le_mul_right _ hg;rw [← Nat.pow_add] at h1;refine Nat.le_trans ?_ h1;rw [p52,← Nat.pow_add];refine Nat.pow_le_pow_right (by omega) ?_;unfold ZaA at hne ⊢;omega
 ·rw [Zdj false M E h,Zf6,Nat.one_mul,show (E + 1074 - ((ZaA M E + 1074).toNat : Nat)).toNat = (E - ZaA M E).toNat by omega,show (((ZaA M E + 1074).toNat : Nat) - (E + 1074)).toNat = (ZaA M E - E).toNat by omega,Zj8]
theorem Zmg (A B n t d : Nat) (hA : A = n * B + t) (h0 : 0 < t) (ht : t < B) (hd : 1 ≤ d) : rneQ A (B * 2 ^ d) = rneS n d:=by
 obtain ⟨c,rfl⟩ : ∃ c,d = c + 1:=⟨d - 1,by omega⟩;have hn:=Nat.div_add_mod n (2 ^ (c + 1));have hr:=Nat.mod_lt n (pow_pos (c + 1));unfold rneS rneQ
 generalize n / 2 ^ (c + 1) = q at *
 generalize n % 2 ^ (c + 1) = r at *
 have e2 : (2 : Nat) ^ (c + 1) = 2 * 2 ^ c:=by rw [Nat.pow_succ];omega
 have hA2 : A = (B * 2 ^ (c + 1)) * q + (r * B + t):=by
  rw [hA,← hn,Nat.add_mul];(have : 2 ^ (c + 1) * q * B = B * 2 ^ (c + 1) * q:=by ac_rfl);omega
 have hlt : r * B + t < B * 2 ^ (c + 1):=by
  have : (r + 1) * B ≤ 2 ^ (c + 1) * B:=Nat.mul_le_mul_right _ hr;rw [Nat.add_mul,Nat.one_mul] at this;rw [Nat.mul_comm B];omega
 have hdv : A / (B * 2 ^ (c + 1)) = q:=by
  rw [hA2,Nat.mul_add_div (by omega),Nat.div_eq_of_lt hlt,Nat.add_zero]
 have hmv : A % (B * 2 ^ (c + 1)) = r * B + t:=by
  rw [hA2,Nat.mul_add_mod,Nat.mod_eq_of_lt hlt]
 rw [hdv,hmv]
 congr 1
 rw [e2] at *
 generalize 2 ^ c = p at *
 by_cases h : 2 * p ≤ 2 * r
 ·rw [if_pos h,if_pos];left;have : p * B ≤ r * B:=Nat.mul_le_mul_right _ (by omega);(have e3 : B * (2 * p) = 2 * (p * B):=by ac_rfl);omega
 ·have : (r + 1) * B ≤ p * B:=Nat.mul_le_mul_right _ (by omega);rw [Nat.add_mul,Nat.one_mul] at this;(have e3 : B * (2 * p) = 2 * (p * B):=by ac_rfl);rw [if_neg h,if_neg];rintro (h1 | ⟨h1,_⟩) <;> omega
theorem Zge {A B n : Nat} {E : Int} (hB : 0 < B) (hn : n = A / B) (hb : 72057594037927936 ≤ n) : ZbB A B E (Zen false n E (decide (A % B ≠ 0))):=by
 by_cases h0 : A % B = 0
 ·rw [decide_eq_false (by omega)];(have e0 : Zen false n E false = double.nearest false n E:=by unfold Zen;simp only [Bool.false_eq_true,if_false]);rw [e0]
  have hA : A = n * B:=by
   have:=Nat.div_add_mod A B;rw [h0,Nat.mul_comm,← hn] at this;omega
  exact (Zcu (A:=n) (B:=1) (C:=A) (D:=B) (E:=E) (F:=E) (by omega) hB 0 0 rfl (by rw [hA];simp)).1 (Zc3 (by omega))
 ·rw [decide_eq_true h0];have h4:=Zgh n E hb;(have hlast : -1074 ≤ ZaA n E:=by unfold ZaA;omega);have hl:=Zdw n;have hg:=Zd8 (n:=n) (by omega)
  have hA : A = n * B + A % B:=by
   have:=Nat.div_add_mod A B;rw [Nat.mul_comm,← hn] at this;omega
  have hm:=Nat.mod_lt A hB;rw [ZmL false n E hb];refine Zdk (ZaA n E + 1074).toNat ?_ ?_ ?_
  ·rw [show (E + 1074 - ((ZaA n E + 1074).toNat : Nat)).toNat = 0 by omega,show (((ZaA n E + 1074).toNat : Nat) - (E + 1074)).toNat = (ZaA n E - E).toNat by omega,Nat.pow_zero,Nat.mul_one];(have h1 : A < (n + 1) * B:=by rw [Nat.add_mul,Nat.one_mul];omega);have h2 : (n + 1) * B ≤ 2 ^ (n.log2 + 1) * B:=Nat.mul_le_mul_right _ hl
   have h3 : 2 ^ (n.log2 + 1) ≤ 9007199254740992 * 2 ^ (ZaA n E - E).toNat:=by
    rw [p53,← Nat.pow_add];exact Nat.pow_le_pow_right (by omega) (by unfold ZaA;omega)
   have h5:=Nat.mul_le_mul_right B h3;(have e : 9007199254740992 * 2 ^ (ZaA n E - E).toNat * B = 9007199254740992 * (B * 2 ^ (ZaA n E - E).toNat):=by ac_rfl);omega
  ·intro hne;rw [show (E + 1074 - ((ZaA n E + 1074).toNat : Nat)).toNat = 0 by omega,show (((ZaA n E + 1074).toNat : Nat) - (E + 1074)).toNat = (ZaA n E - E).toNat by omega,Nat.pow_zero,Nat.mul_one]
   have h3 : 4503599627370496 * 2 ^ (ZaA n E - E).toNat ≤ n:=by
    refine Nat.le_trans ?_ hg;rw [p52,← Nat.pow_add];refine Nat.pow_le_pow_right (by omega) ?_;unfold ZaA at hne h4 ⊢;omega
   have h5:=Nat.mul_le_mul_right B h3;(have e : 4503599627370496 * 2 ^ (ZaA n E - E).toNat * B = 4503599627370496 * (B * 2 ^ (ZaA n E - E).toNat):=by ac_rfl);omega
  ·rw [Zf6,show (E + 1074 - ((ZaA n E + 1074).toNat : Nat)).toNat = 0 by omega,show (((ZaA n E + 1074).toNat : Nat) - (E + 1074)).toNat = (ZaA n E - E).toNat by omega,Nat.pow_zero,Nat.mul_one,
    Zmg A B n (A % B) _ hA (by omega) hm (by omega)]
end Go.Proofs.YtfoekmfpcahmiabGreatDoor.CQ
