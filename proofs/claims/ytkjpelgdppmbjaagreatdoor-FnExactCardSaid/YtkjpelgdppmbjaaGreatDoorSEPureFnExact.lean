/- The exact figures of a drawn finite number, times a power of 2 or of 10, are those of its parts; they have no nought at their end. No condition but the statement's own. -/
import Derived.Test.YtkjpelgdppmbjaaGreatDoorSEMFnExactx7
import Derived.Test.YtkjpelgdppmbjaaGreatDoorSEK9
namespace Go.Proofs.YtkjpelgdppmbjaaGreatDoor.Pure
open Go.RowKit Go.Proofs.YtkjpelgdppmbjaaGreatDoor.MFnExact Go.Proofs.YtkjpelgdppmbjaaGreatDoorW.PrintWords Go.Proofs.YtkjpelgdppmbjaaGreatDoorW.PrintLast Go.Proofs.YtkjpelgdppmbjaaGreatDoor.CB
theorem and_low255 (x : Int) : 0 ≤ Go.bits .and .i64 x 255 ∧ Go.bits .and .i64 x 255 ≤ 255 := by
 have e : Go.bits .and .i64 x 255 = wrap64 (((BitVec.ofInt 64 x).toNat &&& 255 : Nat) : Int) := by
  simp only [Go.bits, wi64]
  show wrap64 (((BitVec.ofInt 64 x &&& BitVec.ofInt 64 255).toNat : Int)) = _
  rw [BitVec.toNat_and]
  rfl
 have h : (BitVec.ofInt 64 x).toNat &&& 255 ≤ 255 := Nat.and_le_right
 rw [e, w64 (by omega) (by omega)]
 omega
theorem spec_byte (l : List Int) (i h : Int) (hl : l.length ≤ 140737488351232) (hi : 0 ≤ i) : ∃ v i' h', spec_l01Byte.f l i h = some (v, i', h') ∧ (0 ≤ v ∧ v ≤ 255) ∧ 0 ≤ i' := by
 unfold spec_l01Byte.f
 by_cases h1 : i < (l.length : Int)
 ·rw [if_pos h1, if_pos hi]
  refine ⟨_, _, _, rfl, and_low255 _, ?_⟩
  rw [w64 (by omega) (by omega)]
  omega
 ·rw [if_neg h1]
  exact ⟨_, _, _, rfl, and_low255 _, hi⟩
theorem spec_below (l : List Int) (i h n : Int) (hl : l.length ≤ 140737488351232) (hi : 0 ≤ i) (hn : 0 < n) : ∃ v i' h', spec_l01Below.f l i h n = some (v, i', h') ∧ (0 ≤ v ∧ v < n) ∧ 0 ≤ i' := by
 unfold spec_l01Below.f
 rw [if_neg (by omega)]
 by_cases h1 : n ≤ 256
 ·rw [if_pos h1]
  obtain ⟨v, i', h', e, hv, hi'⟩ := spec_byte l i h hl hi
  rw [e]
  simp only [Option.bind_some]
  rw [if_neg (by omega), tmodN hv.1]
  exact ⟨_, _, _, rfl, ⟨Int.emod_nonneg _ (by omega), Int.emod_lt_of_pos _ hn⟩, hi'⟩
 ·rw [if_neg h1]
  obtain ⟨v1, i1, h1, e1, r1, p1⟩ := spec_byte l i h hl hi
  obtain ⟨v2, i2, h2, e2, r2, p2⟩ := spec_byte l i1 h1 hl p1
  obtain ⟨v3, i3, h3, e3, r3, p3⟩ := spec_byte l i2 h2 hl p2
  obtain ⟨v4, i4, h4, e4, r4, p4⟩ := spec_byte l i3 h3 hl p3
  rw [e1]
  simp only [Option.bind_some]
  rw [e2]
  simp only [Option.bind_some]
  rw [e3]
  simp only [Option.bind_some]
  rw [e4]
  simp only [Option.bind_some]
  rw [if_neg (by omega), w64 (x := v1 * 16777216) (by omega) (by omega), w64 (x := v2 * 65536) (by omega) (by omega), w64 (x := v3 * 256) (by omega) (by omega), w64 (x := v1 * 16777216 + v2 * 65536) (by omega) (by omega), w64 (x := v1 * 16777216 + v2 * 65536 + v3 * 256) (by omega) (by omega), w64 (by omega) (by omega), tmodN (by omega)]
  exact ⟨_, _, _, rfl, ⟨Int.emod_nonneg _ (by omega), Int.emod_lt_of_pos _ hn⟩, p4⟩
theorem spec_new_l0 (l : List Int) (_hl : l.length ≤ 140737488351232) : ∀ (d i : Nat) (x : Int), 4000 - i = d → i ≤ 4000 → ∃ h, Ev (fun k => spec_l01New.l0 k l x (i : Int)) (l, 0, h) := by
 have hr : ∀ (k i : Nat) (x : Int), spec_l01New.l0 (k + 1) l x (i : Int) = if (i : Int) < (l.length : Int) then (if (i : Int) < 4000 then (if 0 ≤ (i : Int) then (spec_l01New.l0 k l (Go.bits .and .i64 (wrap64 ((wrap64 ((wrap64 (x * 131)) + (wrap64 (rd l i)))) + 7)) 1073741823) (wrap64 ((i : Int) + 1))) else (none)) else (some (l, 0, x))) else (some (l, 0, x)) := fun _ _ _ => rfl
 intro d
 induction d with
 | zero =>
  intro i x hd hi
  refine ⟨x, Ev.step (f := fun _ => some (l, 0, x)) (fun k => ?_) (Ev.now _)⟩
  rw [hr]
  split
  ·rw [if_neg (by omega)]
  ·rfl
 | succ d ih =>
  intro i x hd hi
  by_cases h1 : i < l.length
  ·obtain ⟨h, e⟩ := ih (i + 1) (Go.bits .and .i64 (wrap64 ((wrap64 ((wrap64 (x * 131)) + (wrap64 (rd l i)))) + 7)) 1073741823) (by omega) (by omega)
   exact ⟨h, Ev.step (fun k => by rw [hr, if_pos (by omega), if_pos (by omega), if_pos (by omega), w64s (by omega)]) e⟩
  ·exact ⟨x, Ev.step (f := fun _ => some (l, 0, x)) (fun k => by rw [hr, if_neg (by omega)]) (Ev.now _)⟩
theorem spec_new (l : List Int) (hl : l.length ≤ 140737488351232) : ∃ h, Ev (fun k => spec_l01New.f k l) (l, 0, h) := spec_new_l0 l hl 4000 0 _ (by omega) (by omega)
theorem spec_once (l : List Int) (i h n : Int) (hl : l.length ≤ 140737488351232) (hi : 0 ≤ i) (hn : 0 < n) : ∃ (b : Bool) (i' h' : Int), spec_l01Once.f l i h n = some (b, i', h') ∧ 0 ≤ i' := by
 obtain ⟨v, i', h', e, _, p⟩ := spec_below l i h n hl hi hn
 refine ⟨v == 0, i', h', ?_, p⟩
 unfold spec_l01Once.f
 rw [e]
 rfl
def clampE (E : Int) : Int := max (-5000) (min E 5000)
open Go.Proofs.YtkjpelgdppmbjaaGreatDoor.CR in
def roundT (b : Bool) (M : Nat) (E : Int) (more : Bool) : Nat := if M = 0 then enc b 0 else nearS b M (clampE E) (more && decide (72057594037927936 ≤ M))
theorem spec_pow_l0 (n : Nat) (hn : n ≤ 63) : ∀ (d i : Nat), n - i = d → i ≤ n → Ev (fun k => spec_l03Pow.l0 k (n : Int) ((2 ^ i : Nat) : Int) (i : Int)) ((2 ^ n : Nat) : Int) := by
 intro d
 induction d with
 | zero =>
  intro i hd hi
  obtain rfl : i = n := by omega
  exact Ev.step (f := fun _ => some ((2 ^ i : Nat) : Int)) (fun k => by simp only [spec_l03Pow.l0]; rw [if_neg (by omega)]) (Ev.now _)
 | succ d ih =>
  intro i hd hi
  refine Ev.step (fun k => ?_) (ih (i + 1) (by omega) (by omega))
  simp only [spec_l03Pow.l0]
  have hp : 2 ^ (i + 1) ≤ 2 ^ 63 := Nat.pow_le_pow_right (by omega) (by omega)
  rw [if_pos (by omega), wu64, w64 (by omega) (by omega)]
  rw [Nat.pow_succ] at hp
  rw [show ((2 ^ i : Nat) : Int) * 2 % 18446744073709551616 = ((2 ^ (i + 1) : Nat) : Int) by rw [Nat.pow_succ]; omega]
  rfl
theorem spec_pow (n : Nat) (hn : n ≤ 63) : Ev (fun k => spec_l03Pow.f k (n : Int)) ((2 ^ n : Nat) : Int) := by
 unfold spec_l03Pow.f; exact spec_pow_l0 n hn n 0 (by omega) (by omega)
theorem spec_pow63 : Ev (fun k => spec_l03Pow.f k 63) 9223372036854775808 := spec_pow 63 (by omega)
open Go.Proofs.YtkjpelgdppmbjaaGreatDoor.CR in
theorem spec_sign (r : Nat) (b : Bool) (hr : r < 9223372036854775808) : Ev (fun k => spec_l03Sign.f k (r : Int) b) ((enc b r : Nat) : Int) := by
 unfold spec_l03Sign.f
 cases b
 ·exact Ev.now _
 ·simp only [if_true]
  refine Ev.bind spec_pow63 ?_
  rw [wu64, show ((r : Int) + 9223372036854775808) % 18446744073709551616 = ((enc true r : Nat) : Int) by unfold enc; rw [if_pos rfl]; omega]
  exact Ev.now _
open Go.Proofs.YtkjpelgdppmbjaaGreatDoor.CR in
theorem spec_pack_j9 (b : Bool) (last : Int) (m : Nat) (h0 : -1074 ≤ last) (h1 : last ≤ 10000) (hm : m < 9007199254740992) (hn : last ≠ -1074 → 4503599627370496 ≤ m) :
  Ev (fun k => spec_RoundTo.j9 k b (m : Int) last) ((packN b last m : Nat) : Int) := by
 have hj : ∀ (k : Nat) (x1 x2 : Int), spec_RoundTo.j9 (k + 1) b x1 x2 = if x1 < 4503599627370496 then ((spec_l03Sign.f k x1 b).bind fun t104 => (some t104)) else (if x2 > 971 then ((spec_l03Sign.f k 9218868437227405312 b).bind fun t105 => (some t105)) else ((spec_l03Sign.f k (IntKind.u64.wrap ((IntKind.u64.wrap (x1 - 4503599627370496)) + (IntKind.u64.wrap ((IntKind.u64.wrap (wrap64 (x2 + 1075))) * 4503599627370496)))) b).bind fun t106 => (some t106))) := fun _ _ _ => rfl
 by_cases h3 : m < 4503599627370496
 ·have hl : last = -1074 := by
   rcases Int.lt_or_eq_of_le h0 with h | h
   ·have := hn (by omega); omega
   ·exact h.symm
  subst hl
  have e : packN b (-1074) m = enc b m := by
   unfold packN
   rw [Nat.min_eq_left (by omega), show (-1074 + 1074 : Int).toNat * 4503599627370496 + m = m by omega]
  rw [e]
  exact Ev.step (fun k => by rw [hj, if_pos (by omega)]) (Ev.bind (spec_sign m b (by omega)) (Ev.now _))
 ·by_cases h2 : last > 971
  ·have e : packN b last m = enc b 9218868437227405312 := by
    unfold packN
    rw [Nat.min_eq_right (by omega)]
   rw [e]
   have hs : Ev (fun k => spec_l03Sign.f k 9218868437227405312 b) ((enc b 9218868437227405312 : Nat) : Int) := spec_sign 9218868437227405312 b (by omega)
   exact Ev.step (fun k => by rw [hj, if_neg (by omega), if_pos h2]) (Ev.bind hs (Ev.now _))
  ·have e : packN b last m = enc b (m - 4503599627370496 + (last + 1075).toNat * 4503599627370496) := by
    unfold packN
    rw [Nat.min_eq_left (by omega)]
    exact congrArg (enc b) (by omega)
   rw [e]
   refine Ev.step (fun k => ?_) (Ev.bind (spec_sign (m - 4503599627370496 + (last + 1075).toNat * 4503599627370496) b (by omega)) (Ev.now _))
   rw [hj, if_neg (by omega), if_neg h2, w64 (x := last + 1075) (by omega) (by omega), wu64, wu64, wu64, wu64,
    show (((m : Int) - 4503599627370496) % 18446744073709551616 + (last + 1075) % 18446744073709551616 * 4503599627370496 % 18446744073709551616) % 18446744073709551616 = ((m - 4503599627370496 + (last + 1075).toNat * 4503599627370496 : Nat) : Int) by omega]
open Go.Proofs.YtkjpelgdppmbjaaGreatDoor.CR in
theorem spec_pack_j8 (b : Bool) (last : Int) (m : Nat) (h0 : -1074 ≤ last) (h1 : last ≤ 9000) (hm : m ≤ 9007199254740992) (hn : last ≠ -1074 → 4503599627370496 ≤ m) :
  Ev (fun k => spec_RoundTo.j8 k b (m : Int) last) ((packN b last m : Nat) : Int) := by
 have hj : ∀ (k : Nat) (x1 x2 : Int), spec_RoundTo.j8 (k + 1) b x1 x2 = if x1 = 9007199254740992 then (spec_RoundTo.j9 k b 4503599627370496 (wrap64 (x2 + 1))) else (spec_RoundTo.j9 k b x1 x2) := fun _ _ _ => rfl
 by_cases h2 : m = 9007199254740992
 ·subst h2
  have e : packN b last 9007199254740992 = packN b (last + 1) 4503599627370496 := by
   unfold packN
   rw [show (last + 1074).toNat * 4503599627370496 + 9007199254740992 = (last + 1 + 1074).toNat * 4503599627370496 + 4503599627370496 by omega]
  rw [e]
  refine Ev.step (fun k => ?_) (spec_pack_j9 b (last + 1) 4503599627370496 (by omega) (by omega) (by omega) (fun _ => by omega))
  rw [hj, if_pos (by omega), w64 (by omega) (by omega)]
  rfl
 ·exact Ev.step (fun k => by rw [hj, if_neg (by omega)]) (spec_pack_j9 b last m h0 (by omega) (by omega) hn)
open Go.Proofs.YtkjpelgdppmbjaaGreatDoor.CR in
theorem spec_pack_j7 (b : Bool) (last : Int) (m : Nat) (z : Bool) (h0 : -1074 ≤ last) (h1 : last ≤ 9000) (hm : m + z.toNat ≤ 9007199254740992) (hn : last ≠ -1074 → 4503599627370496 ≤ m) :
  Ev (fun k => spec_RoundTo.j7 k b (m : Int) last z) ((packN b last (m + z.toNat) : Nat) : Int) := by
 have hj : ∀ (k : Nat) (x1 x2 : Int) (z : Bool), spec_RoundTo.j7 (k + 1) b x1 x2 z = if z = true then (spec_RoundTo.j8 k b (IntKind.u64.wrap (x1 + 1)) x2) else (spec_RoundTo.j8 k b x1 x2) := fun _ _ _ _ => rfl
 cases z
 ·exact Ev.step (fun k => by rw [hj, if_neg (by simp)]) (spec_pack_j8 b last m h0 h1 (by simpa using hm) hn)
 ·refine Ev.step (fun k => ?_) (spec_pack_j8 b last (m + 1) h0 h1 (by simpa using hm) (fun h => by have := hn h; omega))
  have hm' : m + 1 ≤ 9007199254740992 := by simpa using hm
  rw [hj, if_pos rfl, wu64, show ((m : Int) + 1) % 18446744073709551616 = ((m + 1 : Nat) : Int) by omega]
def halfB (M j : Nat) : Bool := decide (1 ≤ j ∧ M / 2 ^ (j - 1) % 2 = 1)
def restB (st : Bool) (M j : Nat) : Bool := st || decide (1 ≤ j ∧ M % 2 ^ (j - 1) ≠ 0)
open Go.Proofs.YtkjpelgdppmbjaaGreatDoor.CR in
theorem round_bits (st : Bool) (M d : Nat) (hst : st = true → 1 ≤ d) : M / 2 ^ d + (halfB M d && (restB st M d || (M / 2 ^ d % 2 == 1))).toNat = if st then rneS M d else rne M d := by
 cases d with
 | zero =>
  have e : halfB M 0 = false := by unfold halfB; exact decide_eq_false (by omega)
  rw [e]
  cases st
  ·rw [rne_zero]; simp
  ·have := hst rfl; omega
 | succ c =>
  have e2 : (2 : Nat) ^ (c + 1) = 2 * 2 ^ c := by rw [Nat.pow_succ]; omega
  have hmod : M % 2 ^ (c + 1) = M % 2 ^ c + 2 ^ c * (M / 2 ^ c % 2) := Nat.mod_pow_succ
  have hlt : M % 2 ^ c < 2 ^ c := Nat.mod_lt _ (Nat.pow_pos (by omega))
  unfold rneS rne halfB restB
  rw [show c + 1 - 1 = c by omega, hmod, e2]
  generalize M / (2 * 2 ^ c) = q
  have hb : M / 2 ^ c % 2 = 0 ∨ M / 2 ^ c % 2 = 1 := by omega
  generalize M / 2 ^ c % 2 = h at *
  generalize M % 2 ^ c = r at *
  generalize 2 ^ c = p at *
  rcases hb with rfl | rfl
  ·rw [Nat.mul_zero, Nat.add_zero]
   have e : decide (1 ≤ c + 1 ∧ 0 = 1) = false := decide_eq_false (by omega)
   rw [e]
   cases st
   ·rw [if_neg (by simp), if_neg (by omega)]; rfl
   ·rw [if_pos rfl, if_neg (by omega)]; rfl
  ·rw [Nat.mul_one]
   have e : decide (1 ≤ c + 1 ∧ 1 = 1) = true := decide_eq_true (by omega)
   rw [e, Bool.true_and]
   cases st
   ·rw [if_neg (by simp)]
    by_cases h0 : r = 0
    ·subst h0
     have e3 : decide (1 ≤ c + 1 ∧ 0 ≠ 0) = false := decide_eq_false (by omega)
     rw [e3, Bool.false_or, Bool.false_or]
     by_cases h1 : q % 2 = 1
     ·rw [if_pos (.inr (by omega)), show (q % 2 == 1) = true by simpa using h1]; rfl
     ·rw [if_neg (by omega), show (q % 2 == 1) = false by simpa using h1]; rfl
    ·have e3 : decide (1 ≤ c + 1 ∧ r ≠ 0) = true := decide_eq_true (by omega)
     rw [e3, if_pos (.inl (by omega))]; rfl
   ·rw [if_pos rfl, if_pos (by omega)]; rfl
theorem half_next (M j : Nat) : halfB M (j + 1) = (M / 2 ^ j % 2 == 1) := by
 unfold halfB
 rw [show j + 1 - 1 = j by omega]
 by_cases h : M / 2 ^ j % 2 = 1
 ·rw [decide_eq_true (by omega)]; exact (beq_iff_eq.mpr h).symm
 ·rw [decide_eq_false (by omega)]; exact (beq_eq_false_iff_ne.mpr h).symm
theorem rest_next (st : Bool) (M j : Nat) : restB st M (j + 1) = (restB st M j || halfB M j) := by
 unfold restB halfB
 rw [show j + 1 - 1 = j by omega]
 cases st
 ·simp only [Bool.false_or]
  cases j with
  | zero => simp [Nat.mod_one]
  | succ c =>
   rw [show c + 1 - 1 = c by omega, Nat.mod_pow_succ]
   have hp : 0 < 2 ^ c := Nat.pow_pos (by omega)
   generalize M % 2 ^ c = r
   have hb : M / 2 ^ c % 2 = 0 ∨ M / 2 ^ c % 2 = 1 := by omega
   generalize M / 2 ^ c % 2 = h at *
   generalize 2 ^ c = p at *
   rcases hb with rfl | rfl
   ·rw [Nat.mul_zero, Nat.add_zero]; simp
   ·rw [Nat.mul_one]; simp; omega
 ·simp
theorem spec_l1_done (k : Nat) (b : Bool) (m : Int) (e : Int) (h r : Bool) (h1 : ¬ m ≥ 9007199254740992) (h2 : -1074 ≤ e) : spec_RoundTo.l1 (k + 2) b m e h r = spec_RoundTo.j7 k b m e (h && (r || (Int.tmod m 2 == 1))) := by
 have hj6 : ∀ (k : Nat), spec_RoundTo.j6 (k + 1) b m e h r false = (if h = true then (if r = true then (spec_RoundTo.j7 k b m e true) else (spec_RoundTo.j7 k b m e ((Int.tmod m 2) == 1))) else (spec_RoundTo.j7 k b m e false)) := fun _ => rfl
 have hl : ∀ (k : Nat), spec_RoundTo.l1 (k + 1) b m e h r = if m ≥ 9007199254740992 then (spec_RoundTo.j6 k b m e h r true) else (spec_RoundTo.j6 k b m e h r (decide (e < (-1074)))) := fun _ => rfl
 rw [hl, if_neg h1, decide_eq_false (by omega), hj6]
 cases h <;> cases r <;> rfl
theorem spec_l1_next (k : Nat) (b : Bool) (m : Nat) (e : Int) (h r : Bool) (hm : m < 18446744073709551616) (he : -30000 ≤ e ∧ e ≤ 30000) (hc : m ≥ 9007199254740992 ∨ e < -1074) :
  spec_RoundTo.l1 (k + 2) b (m : Int) e h r = if m / 2 = 0 ∧ e + 1 < -1074 then spec_RoundTo.l1 k b 0 (-1074) false ((r || h) || (m % 2 == 1)) else spec_RoundTo.l1 k b ((m / 2 : Nat) : Int) (e + 1) (m % 2 == 1) (r || h) := by
 have hj6 : ∀ (k : Nat), spec_RoundTo.j6 (k + 1) b (m : Int) e h r true = if r = true then (if (IntKind.u64.wrap (Int.tdiv (m : Int) 2)) = 0 then (if (wrap64 (e + 1)) < (-1074) then (spec_RoundTo.l1 k b (IntKind.u64.wrap (Int.tdiv (m : Int) 2)) (-1074) false true) else (spec_RoundTo.l1 k b (IntKind.u64.wrap (Int.tdiv (m : Int) 2)) (wrap64 (e + 1)) ((Int.tmod (m : Int) 2) == 1) true)) else (spec_RoundTo.l1 k b (IntKind.u64.wrap (Int.tdiv (m : Int) 2)) (wrap64 (e + 1)) ((Int.tmod (m : Int) 2) == 1) true)) else (if (IntKind.u64.wrap (Int.tdiv (m : Int) 2)) = 0 then (if (wrap64 (e + 1)) < (-1074) then (if h = true then (spec_RoundTo.l1 k b (IntKind.u64.wrap (Int.tdiv (m : Int) 2)) (-1074) false true) else (spec_RoundTo.l1 k b (IntKind.u64.wrap (Int.tdiv (m : Int) 2)) (-1074) false ((Int.tmod (m : Int) 2) == 1))) else (spec_RoundTo.l1 k b (IntKind.u64.wrap (Int.tdiv (m : Int) 2)) (wrap64 (e + 1)) ((Int.tmod (m : Int) 2) == 1) h)) else (spec_RoundTo.l1 k b (IntKind.u64.wrap (Int.tdiv (m : Int) 2)) (wrap64 (e + 1)) ((Int.tmod (m : Int) 2) == 1) h)) := fun _ => rfl
 have hl : ∀ (k : Nat), spec_RoundTo.l1 (k + 1) b (m : Int) e h r = if (m : Int) ≥ 9007199254740992 then (spec_RoundTo.j6 k b (m : Int) e h r true) else (spec_RoundTo.j6 k b (m : Int) e h r (decide (e < (-1074)))) := fun _ => rfl
 have e0 : spec_RoundTo.l1 (k + 2) b (m : Int) e h r = spec_RoundTo.j6 (k + 1) b (m : Int) e h r true := by
  rw [hl]
  by_cases h1 : (m : Int) ≥ 9007199254740992
  ·rw [if_pos h1]
  ·rw [if_neg h1, decide_eq_true (by omega)]
 have e1 : IntKind.u64.wrap (Int.tdiv (m : Int) 2) = ((m / 2 : Nat) : Int) := by rw [wu64, tdivN (Int.natCast_nonneg m)]; omega
 have e2 : ((Int.tmod (m : Int) 2) == 1) = (m % 2 == 1) := by
  rw [tmodN (Int.natCast_nonneg m), Bool.eq_iff_iff]; simp; omega
 have e3 : wrap64 (e + 1) = e + 1 := w64 (by omega) (by omega)
 rw [e0, hj6, e1, e2, e3]
 clear hj6 hl e0 e1 e2 e3
 by_cases h0 : m / 2 = 0
 ·have h0' : ((m / 2 : Nat) : Int) = 0 := by omega
  rw [h0']
  by_cases h1 : e + 1 < -1074
  ·simp only [if_pos h1, if_pos (show m / 2 = 0 ∧ e + 1 < -1074 from ⟨h0, h1⟩)]
   cases r <;> cases h <;> rfl
  ·simp only [if_neg h1, if_neg (show ¬ (m / 2 = 0 ∧ e + 1 < -1074) from fun hh => h1 hh.2)]
   cases r <;> cases h <;> rfl
 ·have h0' : ¬ ((m / 2 : Nat) : Int) = 0 := by omega
  simp only [if_neg h0', if_neg (show ¬ (m / 2 = 0 ∧ e + 1 < -1074) from fun hh => h0 hh.1)]
  cases r <;> cases h <;> rfl
open Go.Proofs.YtkjpelgdppmbjaaGreatDoor.CR in
theorem spec_l1_run (b st : Bool) (M : Nat) (E : Int) (D : Nat) (_h0 : M ≠ 0) (hM : M < 18446744073709551616) (hE : -5000 ≤ E ∧ E ≤ 5000) (hst : st = true → 1 ≤ D) (hD0 : -1074 ≤ E + D) (hD1 : M < 2 ^ (53 + D)) (hD2 : D < 10000) (hD3 : E + D ≤ 9000) (hstep : ∀ j, j < D → 2 ^ (53 + j) ≤ M ∨ E + j < -1074)
  (hn : E + D ≠ -1074 → 4503599627370496 ≤ M / 2 ^ D) :
  ∀ (d j : Nat), D - j = d → j ≤ D → Ev (fun k => spec_RoundTo.l1 k b ((M / 2 ^ j : Nat) : Int) (E + j) (halfB M j) (restB st M j)) ((packN b (E + D) (if st then rneS M D else rne M D) : Nat) : Int) := by
 intro d
 induction d with
 | zero =>
  intro j hd hj
  obtain rfl : j = D := by omega
  have hq : M / 2 ^ j < 9007199254740992 := Nat.div_lt_of_lt_mul (by rw [show (9007199254740992 : Nat) = 2 ^ 53 from rfl, ← Nat.pow_add, Nat.add_comm]; exact hD1)
  have hb := round_bits st M j hst
  rw [← hb]
  refine Ev.step (f := fun k => spec_RoundTo.l1 (k + 1) b ((M / 2 ^ j : Nat) : Int) (E + j) (halfB M j) (restB st M j)) (fun _ => rfl) ?_
  have ht : (Int.tmod ((M / 2 ^ j : Nat) : Int) 2 == 1) = (M / 2 ^ j % 2 == 1) := by
   rw [tmodN (Int.natCast_nonneg _), Bool.eq_iff_iff]
   generalize M / 2 ^ j = q
   simp; omega
  generalize hz : (halfB M j && (restB st M j || (M / 2 ^ j % 2 == 1))) = z
  have hz1 : z.toNat ≤ 1 := by cases z <;> decide
  refine Ev.step (fun k => ?_) (spec_pack_j7 b (E + j) (M / 2 ^ j) z hD0 hD3 (by omega) hn)
  rw [spec_l1_done k b _ _ _ _ (by omega) hD0, ht, hz]
 | succ d ih =>
  intro j hd hj
  have hc := hstep j (by omega)
  have hle : M / 2 ^ j ≤ M := Nat.div_le_self _ _
  have hdiv : M / 2 ^ j / 2 = M / 2 ^ (j + 1) := by rw [Nat.div_div_eq_div_mul, ← Nat.pow_succ]
  have hcond : M / 2 ^ j ≥ 9007199254740992 ∨ E + (j : Int) < -1074 := by
   rcases hc with h | h
   ·left
    exact (Nat.le_div_iff_mul_le (Nat.pow_pos (by omega))).2 (by rw [show (9007199254740992 : Nat) = 2 ^ 53 from rfl, ← Nat.pow_add]; exact h)
   ·right; exact h
  have hnx : ∀ k, spec_RoundTo.l1 (k + 2) b ((M / 2 ^ j : Nat) : Int) (E + j) (halfB M j) (restB st M j) = if M / 2 ^ j / 2 = 0 ∧ E + j + 1 < -1074 then spec_RoundTo.l1 k b 0 (-1074) false ((restB st M j || halfB M j) || (M / 2 ^ j % 2 == 1)) else spec_RoundTo.l1 k b ((M / 2 ^ j / 2 : Nat) : Int) (E + j + 1) (M / 2 ^ j % 2 == 1) (restB st M j || halfB M j) :=
   fun k => spec_l1_next k b (M / 2 ^ j) (E + j) _ _ (by omega) (by omega) hcond
  refine Ev.step (f := fun k => spec_RoundTo.l1 (k + 1) b ((M / 2 ^ j : Nat) : Int) (E + j) (halfB M j) (restB st M j)) (fun _ => rfl) ?_
  by_cases hz : M / 2 ^ j / 2 = 0 ∧ E + j + 1 < -1074
  ·-- nothing is left of it
   have hz1 := hz.1
   rw [hdiv] at hz1
   have hlt : M < 2 ^ (j + 1) := by
    rcases Nat.lt_or_ge M (2 ^ (j + 1)) with h | h
    ·exact h
    ·have := Nat.div_pos h (Nat.pow_pos (n := j + 1) (show 0 < 2 by omega)); omega
   have hDj : j + 2 ≤ D := by omega
   have hp : 2 ^ (j + 2) ≤ 2 ^ D := Nat.pow_le_pow_right (by omega) hDj
   have hp2 : (2 : Nat) ^ (j + 2) = 2 * 2 ^ (j + 1) := by rw [Nat.pow_succ 2 (j + 1)]; omega
   have hS : rneS M D = 0 := by
    unfold rneS
    generalize 2 ^ D = q at *
    generalize 2 ^ (j + 2) = u at *
    generalize 2 ^ (j + 1) = v at *
    rw [Nat.div_eq_of_lt (show M < q by omega), Nat.mod_eq_of_lt (show M < q by omega), if_neg (by omega)]
   have hR : rne M D = 0 := by
    unfold rne
    generalize 2 ^ D = q at *
    generalize 2 ^ (j + 2) = u at *
    generalize 2 ^ (j + 1) = v at *
    rw [Nat.div_eq_of_lt (show M < q by omega), Nat.mod_eq_of_lt (show M < q by omega), if_neg (by omega)]
   have hz2 : (if st then rneS M D else rne M D) = 0 := by rw [hS, hR]; cases st <;> rfl
   rw [hz2]
   have hq0 : M / 2 ^ D = 0 := Nat.div_eq_of_lt (by
    generalize 2 ^ D = q at *
    generalize 2 ^ (j + 2) = u at *
    generalize 2 ^ (j + 1) = v at *
    omega)
   have hED : E + D = -1074 := by
    rcases Classical.em (E + D = -1074) with h | h
    ·exact h
    ·have := hn h; omega
   rw [hED]
   refine Ev.step (f := fun k => spec_RoundTo.l1 k b 0 (-1074) false ((restB st M j || halfB M j) || (M / 2 ^ j % 2 == 1))) (fun k => by rw [hnx k, if_pos hz]) ?_
   refine Ev.step (f := fun k => spec_RoundTo.l1 (k + 1) b 0 (-1074) false ((restB st M j || halfB M j) || (M / 2 ^ j % 2 == 1))) (fun _ => rfl) ?_
   exact Ev.step (fun k => by rw [spec_l1_done k b 0 (-1074) false _ (by omega) (by omega), Bool.false_and]; rfl) (spec_pack_j7 b (-1074) 0 false (by omega) (by omega) (by decide) (fun h => absurd rfl h))
  ·have h' := ih (j + 1) (by omega) (by omega)
   rw [half_next, rest_next, ← hdiv] at h'
   refine Ev.step (fun k => ?_) h'
   rw [hnx k, if_neg hz]
   rw [show E + (j : Int) + 1 = E + ((j + 1 : Nat) : Int) by omega]
open Go.Proofs.YtkjpelgdppmbjaaGreatDoor.CR in
theorem spec_l0_run (b st : Bool) (M : Nat) (E : Int) (h0 : M ≠ 0) (hM : M < 18446744073709551616) (hE : -5000 ≤ E ∧ E ≤ 5000) (r : Int) :
  ∀ (d i : Nat), (E - lastP M E).toNat - i = d → i ≤ (E - lastP M E).toNat →
  Ev (fun k => spec_RoundTo.l1 k b ((M * 2 ^ (E - lastP M E).toNat : Nat) : Int) (E - (E - lastP M E).toNat) false st) r →
  Ev (fun k => spec_RoundTo.l0 k b ((M * 2 ^ i : Nat) : Int) (E - i) st) r := by
 have hl : ∀ (k : Nat) (x1 x2 : Int), spec_RoundTo.l0 (k + 1) b x1 x2 st = if x1 < 4503599627370496 then (if x2 > (-1074) then (spec_RoundTo.l0 k b (IntKind.u64.wrap (x1 * 2)) (wrap64 (x2 - 1)) st) else (spec_RoundTo.j4 k b x1 x2 st)) else (spec_RoundTo.j4 k b x1 x2 st) := fun _ _ _ => rfl
 have hj4 : ∀ (k : Nat) (x1 x2 : Int), spec_RoundTo.j4 (k + 1) b x1 x2 st = spec_RoundTo.l1 k b x1 x2 false st := fun _ _ _ => rfl
 have hlog := log_le h0
 have hlog2 := lt_log M
 have hlogM : M.log2 < 64 := log_mono hM h0
 intro d
 induction d with
 | zero =>
  intro i hd hi h
  obtain rfl : i = (E - lastP M E).toNat := by omega
  refine Ev.step (f := fun k => spec_RoundTo.j4 k b ((M * 2 ^ (E - lastP M E).toNat : Nat) : Int) (E - (E - lastP M E).toNat) st) (fun k => ?_) (Ev.step (fun k => by rw [hj4]) h)
  rw [hl]
  by_cases h1 : ((M * 2 ^ (E - lastP M E).toNat : Nat) : Int) < 4503599627370496
  ·rw [if_pos h1]
   have : ¬ (E - ((E - lastP M E).toNat : Int) > -1074) := by
    intro h2
    have h3 : M * 2 ^ (E - lastP M E).toNat < 2 ^ 52 := by
     have : (2 : Nat) ^ 52 = 4503599627370496 := rfl
     omega
    have h4 : 2 ^ (M.log2 + (E - lastP M E).toNat) ≤ M * 2 ^ (E - lastP M E).toNat := by
     rw [Nat.pow_add]; exact Nat.mul_le_mul_right _ hlog
    have h5 : M.log2 + (E - lastP M E).toNat < 52 := by
     rcases Nat.lt_or_ge (M.log2 + (E - lastP M E).toNat) 52 with h | h
     ·exact h
     ·have := Nat.pow_le_pow_right (n := 2) (by omega) h
      omega
    clear h1 h3 h4
    unfold lastP at *
    omega
   rw [if_neg this]
  ·rw [if_neg h1]
 | succ d ih =>
  intro i hd hi h
  have h' := ih (i + 1) (by omega) (by omega) h
  refine Ev.step (fun k => ?_) h'
  have hlt : M * 2 ^ i < 4503599627370496 := by
   have h3 : M * 2 ^ i < 2 ^ (M.log2 + 1) * 2 ^ i := Nat.mul_lt_mul_of_pos_right hlog2 (Nat.pow_pos (by omega))
   rw [← Nat.pow_add] at h3
   exact Nat.lt_of_lt_of_le h3 (Nat.pow_le_pow_right (n := 2) (by omega) (show M.log2 + 1 + i ≤ 52 by unfold lastP at *; omega))
  have hgt : E - (i : Int) > -1074 := by unfold lastP at *; omega
  have e1 : M * 2 ^ (i + 1) = M * 2 ^ i * 2 := by rw [Nat.pow_succ, Nat.mul_assoc]
  rw [e1]
  generalize M * 2 ^ i = p at *
  rw [hl, if_pos (by omega), if_pos hgt, wu64, w64 (by omega) (by omega), show ((p : Nat) : Int) * 2 % 18446744073709551616 = ((p * 2 : Nat) : Int) by omega, show E - (i : Int) - 1 = E - ((i + 1 : Nat) : Int) by omega]
open Go.Proofs.YtkjpelgdppmbjaaGreatDoor.CR in
theorem spec_round_l0 (b st : Bool) (M : Nat) (E : Int) (h0 : M ≠ 0) (hM : M < 18446744073709551616) (hE : -5000 ≤ E ∧ E ≤ 5000) (hst : st = true → 72057594037927936 ≤ M) :
  Ev (fun k => spec_RoundTo.l0 k b (M : Int) E st) ((nearS b M E st : Nat) : Int) := by
 have hlog := log_le h0
 have hlog2 := lt_log M
 have hlogM : M.log2 < 64 := log_mono hM h0
 have h := spec_l0_run b st M E h0 hM hE ((nearS b M E st : Nat) : Int) (E - lastP M E).toNat 0 (by omega) (by omega)
 rw [Nat.pow_zero, Nat.mul_one, show E - ((0 : Nat) : Int) = E by omega] at h
 refine h ?_
 have hlp : -1074 ≤ lastP M E ∧ lastP M E ≤ 8000 := by unfold lastP; omega
 have hlp2 : E + M.log2 - 52 ≤ lastP M E := by unfold lastP; omega
 have hlp3 : lastP M E = -1074 ∨ lastP M E = E + M.log2 - 52 := by unfold lastP; omega
 have hkr := kept_range M E h0
 by_cases hd : lastP M E > E
 ·-- down
  have hres : nearS b M E st = packN b (E + ((lastP M E - E).toNat : Int)) (if st then rneS M (lastP M E - E).toNat else rne M (lastP M E - E).toNat) := by
   rw [show E + ((lastP M E - E).toNat : Int) = lastP M E by omega]
   cases st
   ·unfold nearS
    rw [if_neg (by simp), if_neg (by simp), near_down b M E h0 (by omega)]
   ·rw [near_st b M E (hst rfl), if_pos rfl]
  rw [hres, show (E - lastP M E).toNat = 0 by omega, Nat.pow_zero, Nat.mul_one, show E - ((0 : Nat) : Int) = E by omega]
  have hrun := spec_l1_run b st M E (lastP M E - E).toNat h0 hM hE (fun _ => by omega) (by omega)
   (Nat.lt_of_lt_of_le hlog2 (Nat.pow_le_pow_right (by omega) (by omega))) (by omega) (by omega)
   (fun j hj => by
    rcases Classical.em (E + j < -1074) with h | h
    ·exact .inr h
    ·left; exact Nat.le_trans (Nat.pow_le_pow_right (by omega) (by omega)) hlog)
   (fun hne => by
    have hx : lastP M E ≠ -1074 := by omega
    refine (Nat.le_div_iff_mul_le (Nat.pow_pos (by omega))).2 ?_
    rw [show (4503599627370496 : Nat) = 2 ^ 52 from rfl, ← Nat.pow_add]
    exact Nat.le_trans (Nat.pow_le_pow_right (by omega) (by omega)) hlog)
   (lastP M E - E).toNat 0 (by omega) (by omega)
  rw [Nat.pow_zero, Nat.div_one, show E + ((0 : Nat) : Int) = E by omega] at hrun
  have e1 : halfB M 0 = false := by unfold halfB; exact decide_eq_false (by omega)
  have e2 : restB st M 0 = st := by unfold restB; rw [decide_eq_false (by omega), Bool.or_false]
  rw [e1, e2] at hrun
  exact hrun
 ·-- up
  have hst2 : st = false := by
   cases st
   ·rfl
   ·have := lastP_big M E (hst rfl); omega
  subst hst2
  have hres : nearS b M E false = packN b (lastP M E) (M * 2 ^ (E - lastP M E).toNat) := by
   unfold nearS
   rw [if_neg (by simp), near_up b M E h0 (by omega)]
  rw [show (lastP M E - E).toNat = 0 by omega, rne_zero] at hkr
  rw [hres, show E - (((E - lastP M E).toNat : Nat) : Int) = lastP M E by omega]
  generalize hm : M * 2 ^ (E - lastP M E).toNat = m at *
  rcases Nat.lt_or_ge m 9007199254740992 with hmlt | hmge
  ·refine Ev.step (f := fun k => spec_RoundTo.l1 (k + 1) b (m : Int) (lastP M E) false false) (fun _ => rfl) ?_
   have hp := spec_pack_j7 b (lastP M E) m false hlp.1 (by omega) (by show m + 0 ≤ _; omega) hkr.2
   exact Ev.step (fun k => by rw [spec_l1_done k b (m : Int) (lastP M E) false false (by omega) hlp.1, Bool.false_and]) hp
  ·exfalso
   have h3 : M * 2 ^ (E - lastP M E).toNat < 2 ^ (M.log2 + 1) * 2 ^ (E - lastP M E).toNat := Nat.mul_lt_mul_of_pos_right hlog2 (Nat.pow_pos (by omega))
   rw [← Nat.pow_add] at h3
   have h4 := Nat.pow_le_pow_right (n := 2) (by omega) (show M.log2 + 1 + (E - lastP M E).toNat ≤ 53 by omega)
   have h5 : (2 : Nat) ^ 53 = 9007199254740992 := rfl
   omega
open Go.Proofs.YtkjpelgdppmbjaaGreatDoor.CR in
theorem spec_round (b : Bool) (M : Nat) (hM : M < 18446744073709551616) (E : Int) (more : Bool) :
  Ev (fun k => spec_RoundTo.f k b (M : Int) E more) ((roundT b M E more : Nat) : Int) := by
 have hj0 : ∀ (k : Nat) (x2 : Int), spec_RoundTo.j0 (k + 1) b (M : Int) x2 more = if x2 < (-5000) then (spec_RoundTo.j1 k b (M : Int) (-5000) more) else (spec_RoundTo.j1 k b (M : Int) x2 more) := fun _ _ => rfl
 have hj1 : ∀ (k : Nat) (x2 : Int), spec_RoundTo.j1 (k + 1) b (M : Int) x2 more = if more = true then ((spec_l03Pow.f k 56).bind fun t102 => (spec_RoundTo.j2 k b (M : Int) x2 (decide ((M : Int) ≥ t102)))) else (spec_RoundTo.j2 k b (M : Int) x2 false) := fun _ _ => rfl
 have hj2 : ∀ (k : Nat) (x2 : Int) (z : Bool), spec_RoundTo.j2 (k + 1) b (M : Int) x2 z = if (M : Int) = 0 then ((spec_l03Sign.f k 0 b).bind fun t103 => (some t103)) else (spec_RoundTo.l0 k b (M : Int) x2 z) := fun _ _ _ => rfl
 have hcr : -5000 ≤ clampE E ∧ clampE E ≤ 5000 := by unfold clampE; omega
 have k2 : ∀ z : Bool, z = (more && decide (72057594037927936 ≤ M)) → Ev (fun k => spec_RoundTo.j2 k b (M : Int) (clampE E) z) ((roundT b M E more : Nat) : Int) := by
  intro z hz
  unfold roundT
  by_cases h0 : M = 0
  ·rw [if_pos h0]
   have hs : Ev (fun k => spec_l03Sign.f k 0 b) ((enc b 0 : Nat) : Int) := spec_sign 0 b (by omega)
   exact Ev.step (fun k => by rw [hj2, if_pos (by omega)]) (Ev.bind hs (Ev.now _))
  ·rw [if_neg h0, ← hz]
   exact Ev.step (fun k => by rw [hj2, if_neg (by omega)]) (spec_round_l0 b z M (clampE E) h0 hM hcr (fun hh => by rw [hz] at hh; simp at hh; exact hh.2))
 have k1 : Ev (fun k => spec_RoundTo.j1 k b (M : Int) (clampE E) more) ((roundT b M E more : Nat) : Int) := by
  cases hm : more
  ·rw [hm] at k2 hj1
   exact Ev.step (fun k => by rw [hj1, if_neg (by simp)]) (k2 false (by simp))
  ·rw [hm] at k2 hj1
   have hp : Ev (fun k => spec_l03Pow.f k 56) ((2 ^ 56 : Nat) : Int) := spec_pow 56 (by omega)
   refine Ev.step (f := fun k => (spec_l03Pow.f k 56).bind fun t102 => spec_RoundTo.j2 k b (M : Int) (clampE E) (decide ((M : Int) ≥ t102))) (fun k => by rw [hj1, if_pos rfl]) (Ev.bind hp ?_)
   refine k2 _ ?_
   rw [Bool.true_and, decide_eq_decide]
   have : ((2 ^ 56 : Nat) : Int) = 72057594037927936 := rfl
   rw [this]; omega
 unfold spec_RoundTo.f
 by_cases h1 : E > 5000
 ·simp only [if_pos h1]
  have : clampE E = 5000 := by unfold clampE; omega
  rw [this] at k1
  exact Ev.step (fun k => by rw [hj0, if_neg (by omega)]) k1
 ·simp only [if_neg h1]
  by_cases h2 : E < -5000
  ·have : clampE E = -5000 := by unfold clampE; omega
   rw [this] at k1
   exact Ev.step (fun k => by rw [hj0, if_pos h2]) k1
  ·have : clampE E = E := by unfold clampE; omega
   rw [this] at k1
   exact Ev.step (fun k => by rw [hj0, if_neg h2]) k1
def valI (B : Int) : List Int → Int
 | [] => 0
 | x :: l => x + B * valI B l
theorem valI_append (B : Int) (l m : List Int) : valI B (l ++ m) = valI B l + B ^ l.length * valI B m := by
 induction l with
 | nil => simp [valI]
 | cons x l ih =>
  simp only [List.cons_append, valI, ih, List.length_cons, Int.pow_succ]
  grind
theorem valI_set (B : Int) (v : Int) : ∀ (l : List Int) (i : Nat), i < l.length → valI B (l.set i v) = valI B l + B ^ i * (v - l.getD i 0) := by
 intro l
 induction l with
 | nil => intro i h; simp at h
 | cons x l ih =>
  intro i h
  cases i with
  | zero => simp [valI]; omega
  | succ i =>
   have := ih i (by simpa using h)
   simp only [List.set_cons_succ, valI, this, List.getD_cons_succ, Int.pow_succ]
   grind
theorem valI_take_succ (B : Int) (l : List Int) (i : Nat) (h : i < l.length) : valI B (l.take (i + 1)) = valI B (l.take i) + B ^ i * l.getD i 0 := by
 rw [List.take_succ_eq_append_getElem h, valI_append]
 have : (l.take i).length = i := by simp; omega
 rw [this]
 simp [valI, List.getD_eq_getElem?_getD, List.getElem?_eq_getElem h]
theorem valI_zeros (B : Int) (n : Nat) : valI B (List.replicate n 0) = 0 := by
 induction n with
 | zero => rfl
 | succ n ih => rw [List.replicate_succ]; simp [valI, ih]
theorem rd_nat (l : List Int) (i : Nat) : rd l (i : Int) = l.getD i 0 := by unfold rd; rw [Int.toNat_natCast]
theorem getD_mem (l : List Int) (i : Nat) (h : i < l.length) : l.getD i 0 ∈ l := by
 rw [List.getD_eq_getElem?_getD, List.getElem?_eq_getElem h]; simp
theorem getD_set_eq (l : List Int) (i : Nat) (v : Int) (h : i < l.length) : (l.set i v).getD i 0 = v := by
 simp [List.getD_eq_getElem?_getD, h]
theorem getD_set_ne (l : List Int) (i j : Nat) (v : Int) (h : i ≠ j) : (l.set i v).getD j 0 = l.getD j 0 := by
 simp [List.getD_eq_getElem?_getD, List.getElem?_set_ne h]
theorem set_last (m : Nat) (z d : Int) (T : List Int) : (List.replicate (m + 1) z ++ T).set m d = List.replicate m z ++ d :: T := by
 rw [List.replicate_succ', List.append_assoc, List.set_append_right _ _ (by simp)]
 simp
theorem getD_out (l : List Int) (i : Nat) (h : l.length ≤ i) : l.getD i 0 = 0 := by rw [List.getD_eq_getElem?_getD, List.getElem?_eq_none h]; rfl
theorem getD_zeros (n j : Nat) : (List.replicate n (0 : Int)).getD j 0 = 0 := by
 by_cases h : j < n
 ·rw [List.getD_eq_getElem?_getD, List.getElem?_replicate]; simp [h]
 ·rw [getD_out _ _ (by simp; omega)]
open Go.Proofs.YtkjpelgdppmbjaaGreatDoor.CR Ieee in
theorem near_lt (b : Bool) (M : Nat) (E : Int) : double.nearest b M E < 18446744073709551616 := by
 have he : ∀ r : Nat, r ≤ 9218868437227405312 → enc b r < 18446744073709551616 := by
  intro r hr
  unfold enc
  split <;> omega
 by_cases h : M = 0
 ·subst h
  rw [near_zero]
  exact he 0 (by omega)
 ·rw [near_eq b M E h]
  exact he _ (Nat.min_le_right _ _)
open Go.Proofs.YtkjpelgdppmbjaaGreatDoor.CR Ieee in
theorem round_lt (b : Bool) (M : Nat) (E : Int) (more : Bool) : roundT b M E more < 18446744073709551616 := by
 unfold roundT
 split
 ·unfold enc
  split <;> omega
 ·unfold nearS
  split
  ·exact near_lt _ _ _
  ·exact near_lt _ _ _
theorem spec_fromSmall (z : Int) (h0 : -1000 ≤ z) (h1 : z ≤ 1000) : ∃ v, Ev (fun k => spec_FromInt.f k z) v ∧ (0 ≤ v ∧ v < 18446744073709551616) := by
 unfold spec_FromInt.f
 by_cases hz : z < 0
 ·refine ⟨_, ?_, Int.natCast_nonneg _, Int.ofNat_lt.2 (round_lt true z.natAbs 0 false)⟩
  rw [w64 (x := -z) (by omega) (by omega), wu64, show -z % 18446744073709551616 = ((z.natAbs : Nat) : Int) by omega]
  simp only [if_neg (show ¬ z = -9223372036854775808 by omega), if_pos hz]
  exact Ev.bind (spec_round true z.natAbs (by omega) 0 false) (Ev.now _)
 ·refine ⟨_, ?_, Int.natCast_nonneg _, Int.ofNat_lt.2 (round_lt false z.toNat 0 false)⟩
  rw [wu64 z, show z % 18446744073709551616 = ((z.toNat : Nat) : Int) by omega]
  simp only [if_neg (show ¬ z = -9223372036854775808 by omega), if_neg hz]
  exact Ev.bind (spec_round false z.toNat (by omega) 0 false) (Ev.now _)
theorem u64_range (x : Int) : 0 ≤ IntKind.u64.wrap x ∧ IntKind.u64.wrap x < 18446744073709551616 := by
 rw [wu64]; omega
theorem spec_bits (l : List Int) (i h : Int) (hl : l.length ≤ 140737488351232) (hi : 0 ≤ i) : ∃ v i' h', spec_l03Bits64.f l i h = some (v, i', h') ∧ (0 ≤ v ∧ v < 18446744073709551616) ∧ 0 ≤ i' := by
 obtain ⟨v1, i1, h1, e1, _, p1⟩ := spec_below l i h 4294967296 hl hi (by omega)
 obtain ⟨v2, i2, h2, e2, _, p2⟩ := spec_below l i1 h1 4294967296 hl p1 (by omega)
 refine ⟨IntKind.u64.wrap (IntKind.u64.wrap (IntKind.u64.wrap v1 * 4294967296) + IntKind.u64.wrap v2), i2, h2, ?_, u64_range _, p2⟩
 unfold spec_l03Bits64.f
 rw [e1]
 simp only [Option.bind_some]
 rw [e2]
 rfl
theorem spec_number (l : List Int) (i h : Int) (hl : l.length ≤ 140737488351232) (hi : 0 ≤ i) : ∃ v i' h', Ev (fun k => spec_l03Number.f k l i h) (v, i', h') ∧ (0 ≤ v ∧ v < 18446744073709551616) ∧ 0 ≤ i' := by
 obtain ⟨c, i1, h1, e1, r1, p1⟩ := spec_below l i h 8 hl hi (by omega)
 unfold spec_l03Number.f
 rw [e1]
 simp only [Option.bind_some]
 have hj : ∀ (k : Nat) (z : Bool), spec_l03Number.j0 (k + 1) c z l i1 h1 = if z = true then ((spec_l01Below.f l i1 h1 2000).bind fun bt152 => ((spec_FromInt.f k (wrap64 (bt152.1 - 1000))).bind fun t155 => (some (t155, bt152.2.1, bt152.2.2)))) else (if c = 3 then ((spec_l01Once.f l i1 h1 2).bind fun bt156 => ((spec_l01Below.f l bt156.2.1 bt156.2.2 1000000).bind fun bt159 => ((spec_l01Below.f l bt159.2.1 bt159.2.2 40).bind fun bt162 => ((spec_RoundTo.f k bt156.1 (IntKind.u64.wrap (bt159.1)) (wrap64 (bt162.1 - 30)) false).bind fun t165 => (some (t165, bt162.2.1, bt162.2.2)))))) else (if c = 4 then ((spec_l01Below.f l i1 h1 2048).bind fun bt166 => ((spec_l01Below.f l bt166.2.1 bt166.2.2 4).bind fun bt169 => (some (IntKind.u64.wrap ((IntKind.u64.wrap ((IntKind.u64.wrap (bt166.1)) * 4503599627370496)) + (IntKind.u64.wrap (bt169.1))), bt169.2.1, bt169.2.2)))) else (if c = 5 then ((spec_l01Once.f l i1 h1 2).bind fun bt172 => ((spec_l03Bits64.f l bt172.2.1 bt172.2.2).bind fun bt175 => ((spec_l01Below.f l bt175.2.1 bt175.2.2 120).bind fun bt178 => ((spec_RoundTo.f k bt172.1 (IntKind.u64.wrap (Int.tdiv bt175.1 2048)) (wrap64 (bt178.1 - 80)) false).bind fun t181 => (some (t181, bt178.2.1, bt178.2.2)))))) else ((spec_l03Bits64.f l i1 h1).bind fun bt182 => (some (bt182.1, bt182.2.1, bt182.2.2)))))) := fun _ _ => rfl
 have key : ∀ z : Bool, ∃ v i' h', Ev (fun k => spec_l03Number.j0 k c z l i1 h1) (v, i', h') ∧ (0 ≤ v ∧ v < 18446744073709551616) ∧ 0 ≤ i' := by
  intro z
  by_cases hz : z = true
  ·obtain ⟨v2, i2, h2, e2, r2, p2⟩ := spec_below l i1 h1 2000 hl p1 (by omega)
   obtain ⟨v, hv, r⟩ := spec_fromSmall (v2 - 1000) (by omega) (by omega)
   refine ⟨v, i2, h2, Ev.step (f := fun k => (spec_FromInt.f k (v2 - 1000)).bind fun t => some (t, i2, h2)) (fun k => ?_) (Ev.bind hv (Ev.now _)), r, p2⟩
   rw [hj, if_pos hz, e2]
   simp only [Option.bind_some]
   rw [w64 (x := v2 - 1000) (by omega) (by omega)]
  by_cases h3 : c = 3
  ·obtain ⟨b, i2, h2, e2, p2⟩ := spec_once l i1 h1 2 hl p1 (by omega)
   obtain ⟨v3, i3, h3', e3, r3, p3⟩ := spec_below l i2 h2 1000000 hl p2 (by omega)
   obtain ⟨v4, i4, h4, e4, r4, p4⟩ := spec_below l i3 h3' 40 hl p3 (by omega)
   refine ⟨((roundT b v3.toNat (v4 - 30) false : Nat) : Int), i4, h4, Ev.step (f := fun k => (spec_RoundTo.f k b ((v3.toNat : Nat) : Int) (v4 - 30) false).bind fun t => some (t, i4, h4)) (fun k => ?_) (Ev.bind (spec_round b v3.toNat (by omega) (v4 - 30) false) (Ev.now _)), ⟨Int.natCast_nonneg _, Int.ofNat_lt.2 (round_lt _ _ _ _)⟩, p4⟩
   rw [hj, if_neg hz, if_pos h3, e2]
   simp only [Option.bind_some]
   rw [e3]
   simp only [Option.bind_some]
   rw [e4]
   simp only [Option.bind_some]
   rw [w64 (x := v4 - 30) (by omega) (by omega), wu64, show v3 % 18446744073709551616 = ((v3.toNat : Nat) : Int) by omega]
  by_cases h4 : c = 4
  ·obtain ⟨v3, i3, h3', e3, r3, p3⟩ := spec_below l i1 h1 2048 hl p1 (by omega)
   obtain ⟨v4, i4, h4', e4, r4, p4⟩ := spec_below l i3 h3' 4 hl p3 (by omega)
   refine ⟨IntKind.u64.wrap (IntKind.u64.wrap (IntKind.u64.wrap v3 * 4503599627370496) + IntKind.u64.wrap v4), i4, h4', Ev.step (fun k => ?_) (Ev.now (_, i4, h4')), u64_range _, p4⟩
   rw [hj, if_neg hz, if_neg h3, if_pos h4, e3]
   simp only [Option.bind_some]
   rw [e4]
   rfl
  by_cases h5 : c = 5
  ·obtain ⟨b, i2, h2, e2, p2⟩ := spec_once l i1 h1 2 hl p1 (by omega)
   obtain ⟨v3, i3, h3', e3, r3, p3⟩ := spec_bits l i2 h2 hl p2
   obtain ⟨v4, i4, h4', e4, r4, p4⟩ := spec_below l i3 h3' 120 hl p3 (by omega)
   refine ⟨((roundT b (v3.toNat / 2048) (v4 - 80) false : Nat) : Int), i4, h4', Ev.step (f := fun k => (spec_RoundTo.f k b ((v3.toNat / 2048 : Nat) : Int) (v4 - 80) false).bind fun t => some (t, i4, h4')) (fun k => ?_) (Ev.bind (spec_round b (v3.toNat / 2048) (by omega) (v4 - 80) false) (Ev.now _)), ⟨Int.natCast_nonneg _, Int.ofNat_lt.2 (round_lt _ _ _ _)⟩, p4⟩
   rw [hj, if_neg hz, if_neg h3, if_neg h4, if_pos h5, e2]
   simp only [Option.bind_some]
   rw [e3]
   simp only [Option.bind_some]
   rw [e4]
   simp only [Option.bind_some]
   rw [w64 (x := v4 - 80) (by omega) (by omega), tdivN r3.1, wu64, show v3 / 2048 % 18446744073709551616 = ((v3.toNat / 2048 : Nat) : Int) by omega]
  ·obtain ⟨v3, i3, h3', e3, r3, p3⟩ := spec_bits l i1 h1 hl p1
   refine ⟨v3, i3, h3', Ev.step (fun k => ?_) (Ev.now (v3, i3, h3')), r3, p3⟩
   rw [hj, if_neg hz, if_neg h3, if_neg h4, if_neg h5, e3]
   rfl
 by_cases h0 : c = 0
 ·obtain ⟨v2, i2, h2, e2, r2, p2⟩ := spec_below l i1 h1 17 hl p1 (by omega)
  simp only [if_pos h0]
  have hall : ∀ x ∈ ([0, 9223372036854775808, 1, 2, 4503599627370495, 4503599627370496, 4503599627370497, 9218868437227405312, 9218868437227405311, 9218868437227405310, 9221120237041090560, 9221120237041090561, IntKind.u64.wrap (9218868437227405312 + 9223372036854775808), IntKind.u64.wrap (9221120237041090560 + 9223372036854775808), 9218868437227405313, 4607182418800017408, 4607182418800017409] : List Int), 0 ≤ x ∧ x < 18446744073709551616 := by decide +kernel
  refine ⟨_, i2, h2, Ev.bind spec_pow63 (Ev.bind spec_pow63 (Ev.bind spec_pow63 ?_)), hall _ (getD_mem _ v2.toNat ?_), p2⟩
  ·rw [show ((([0, 9223372036854775808, 1, 2, 4503599627370495, 4503599627370496, 4503599627370497, 9218868437227405312, 9218868437227405311, 9218868437227405310, 9221120237041090560, 9221120237041090561, IntKind.u64.wrap (9218868437227405312 + 9223372036854775808), IntKind.u64.wrap (9221120237041090560 + 9223372036854775808), 9218868437227405313, 4607182418800017408, 4607182418800017409] : List Int).length : Nat) : Int) = 17 from rfl, e2]
   simp only [Option.bind_some]
   rw [if_pos r2.1, if_pos r2.2]
   exact Ev.now _
  ·simp only [List.length_cons, List.length_nil]
   omega
 ·simp only [if_neg h0]
  by_cases h2 : c = 1
  ·simp only [if_pos h2]
   exact key _
  ·simp only [if_neg h2]
   exact key _
theorem spec_numbers (l : List Int) (hl : l.length ≤ 140737488351232) : ∃ a b c : Nat, Ev (fun k => spec_DrawNumbers.f k l) ((a : Int), (b : Int), (c : Int)) ∧ a < 18446744073709551616 ∧ b < 18446744073709551616 ∧ c < 18446744073709551616 := by
 obtain ⟨h, e⟩ := spec_new l hl
 obtain ⟨v1, i1, h1, e1, r1, p1⟩ := spec_number l 0 h hl (by omega)
 obtain ⟨v2, i2, h2, e2, r2, p2⟩ := spec_number l i1 h1 hl p1
 obtain ⟨v3, i3, h3, e3, r3, p3⟩ := spec_number l i2 h2 hl p2
 refine ⟨v1.toNat, v2.toNat, v3.toNat, ?_, by omega, by omega, by omega⟩
 rw [show ((v1.toNat : Nat) : Int) = v1 by omega, show ((v2.toNat : Nat) : Int) = v2 by omega, show ((v3.toNat : Nat) : Int) = v3 by omega]
 unfold spec_DrawNumbers.f
 exact Ev.bind e (Ev.bind e1 (Ev.bind e2 (Ev.bind e3 (Ev.now _))))
def partsN (x : Nat) : Int × Bool × Int × Int :=
 if 9218868437227405312 < x % 9223372036854775808 then (1, false, 0, 0)
 else if x % 9223372036854775808 = 9218868437227405312 then (2, decide (9223372036854775808 ≤ x), 0, 0)
 else if x % 9223372036854775808 = 0 then (3, decide (9223372036854775808 ≤ x), 0, 0)
 else if x % 9223372036854775808 < 4503599627370496 then (4, decide (9223372036854775808 ≤ x), ((x % 4503599627370496 : Nat) : Int), -1074)
 else (4, decide (9223372036854775808 ≤ x), ((x % 4503599627370496 + 4503599627370496 : Nat) : Int), ((x / 4503599627370496 % 2048 : Nat) : Int) - 1075)
def nanB (x : Nat) : Bool := decide (9218868437227405312 < x % 9223372036854775808)
theorem spec_parts_j1 (k : Nat) (e f : Int) (b z : Bool) : spec_PartsOfNumber.j1 (k + 1) e f z 0 b 0 0 = if z = true then some (3, b, 0, 0) else if e = 0 then some (4, b, f, (-1074)) else some (4, b, IntKind.u64.wrap (f + 4503599627370496), wrap64 (e - 1075)) := rfl
theorem spec_parts_j0 (k : Nat) (e f : Int) (b z : Bool) : spec_PartsOfNumber.j0 (k + 1) e f z 0 b 0 0 = if z = true then some (1, false, 0, 0) else if e = 2047 then some (2, b, 0, 0) else if e = 0 then spec_PartsOfNumber.j1 k e f (f == 0) 0 b 0 0 else spec_PartsOfNumber.j1 k e f false 0 b 0 0 := rfl
theorem spec_parts (x : Nat) (hx : x < 18446744073709551616) : Ev (fun k => spec_PartsOfNumber.f k (x : Int)) (partsN x) := by
 unfold spec_PartsOfNumber.f
 refine Ev.bind spec_pow63 ?_
 simp only [if_neg (show ¬ (9223372036854775808 : Int) = 0 by omega)]
 have e1 : wrap64 (Int.tmod (IntKind.u64.wrap (Int.tdiv (x : Int) 4503599627370496)) 2048) = ((x / 4503599627370496 % 2048 : Nat) : Int) := by
  rw [wu64, tdivN (Int.natCast_nonneg x), tmodN (by omega), w64 (by omega) (by omega)]; omega
 have e2 : Int.tmod (x : Int) 4503599627370496 = ((x % 4503599627370496 : Nat) : Int) := by rw [tmodN (Int.natCast_nonneg x)]; omega
 have e3 : ((IntKind.u64.wrap (Int.tdiv (x : Int) 9223372036854775808)) == 1) = decide (9223372036854775808 ≤ x) := by
  rw [wu64, tdivN (Int.natCast_nonneg x), Bool.eq_iff_iff]; simp; omega
 rw [e1, e2, e3]
 generalize hb : decide (9223372036854775808 ≤ x) = b
 have hp : partsN x = if 9218868437227405312 < x % 9223372036854775808 then (1, false, 0, 0)
  else if x % 9223372036854775808 = 9218868437227405312 then (2, b, 0, 0)
  else if x % 9223372036854775808 = 0 then (3, b, 0, 0)
  else if x % 9223372036854775808 < 4503599627370496 then (4, b, ((x % 4503599627370496 : Nat) : Int), -1074)
  else (4, b, ((x % 4503599627370496 + 4503599627370496 : Nat) : Int), ((x / 4503599627370496 % 2048 : Nat) : Int) - 1075) := by unfold partsN; rw [hb]
 rw [hp]
 by_cases h1 : x / 4503599627370496 % 2048 = 2047
 ·simp only [if_pos (show ((x / 4503599627370496 % 2048 : Nat) : Int) = 2047 by omega)]
  by_cases h2 : x % 4503599627370496 = 0
  ·rw [if_neg (by omega), if_pos (by omega)]
   exact Ev.step (f := fun _ => some (2, b, 0, 0)) (fun k => by rw [spec_parts_j0, if_neg (by simp [h2]), if_pos (by omega)]) (Ev.now _)
  ·rw [if_pos (by omega)]
   exact Ev.step (f := fun _ => some (1, false, 0, 0)) (fun k => by rw [spec_parts_j0, if_pos (by simp; omega)]) (Ev.now _)
 ·simp only [if_neg (show ¬ ((x / 4503599627370496 % 2048 : Nat) : Int) = 2047 by omega)]
  rw [if_neg (by omega), if_neg (by omega)]
  by_cases h2 : x / 4503599627370496 % 2048 = 0
  ·refine Ev.step (f := fun k => spec_PartsOfNumber.j1 k ((x / 4503599627370496 % 2048 : Nat) : Int) ((x % 4503599627370496 : Nat) : Int) (((x % 4503599627370496 : Nat) : Int) == 0) 0 b 0 0) (fun k => by rw [spec_parts_j0, if_neg (by simp), if_neg (by omega), if_pos (by omega)]) ?_
   by_cases h3 : x % 4503599627370496 = 0
   ·rw [if_pos (by omega)]
    exact Ev.step (f := fun _ => some (3, b, 0, 0)) (fun k => by rw [spec_parts_j1, if_pos (by simp [h3])]) (Ev.now _)
   ·rw [if_neg (by omega), if_pos (by omega)]
    exact Ev.step (f := fun _ => some (4, b, ((x % 4503599627370496 : Nat) : Int), -1074)) (fun k => by rw [spec_parts_j1, if_neg (by simp; omega), if_pos (by omega)]) (Ev.now _)
  ·refine Ev.step (f := fun k => spec_PartsOfNumber.j1 k ((x / 4503599627370496 % 2048 : Nat) : Int) ((x % 4503599627370496 : Nat) : Int) false 0 b 0 0) (fun k => by rw [spec_parts_j0, if_neg (by simp), if_neg (by omega), if_neg (by omega)]) ?_
   rw [if_neg (by omega), if_neg (by omega)]
   refine Ev.step (f := fun _ => some (4, b, ((x % 4503599627370496 + 4503599627370496 : Nat) : Int), ((x / 4503599627370496 % 2048 : Nat) : Int) - 1075)) (fun k => ?_) (Ev.now _)
   rw [spec_parts_j1, if_neg (by simp), if_neg (by omega), wu64, w64 (by omega) (by omega), show (((x % 4503599627370496 : Nat) : Int) + 4503599627370496) % 18446744073709551616 = ((x % 4503599627370496 + 4503599627370496 : Nat) : Int) by omega]
def partsR (d : Ieee.Datum) : Int × Bool × Int × Int := match d with | .nan _ _ => (1, false, 0, 0) | .infinity b => (2, b, 0, 0) | .number b m e => if m = 0 then (3, b, 0, 0) else (4, b, (m : Int), e)
open Go.Proofs.YtkjpelgdppmbjaaGreatDoor.CG in
theorem parts_read (x : Nat) (hx : x < 18446744073709551616) : partsN x = partsR (Ieee.double.read x) := by
 rw [read_def x hx]
 unfold partsN Go.Proofs.YtkjpelgdppmbjaaGreatDoor.CG.sgn
 by_cases h1 : 9218868437227405312 < x % 9223372036854775808
 ·rw [if_pos h1, if_neg (by omega), if_neg (by omega), if_neg (by omega)]; rfl
 ·rw [if_neg h1]
  by_cases h2 : x % 9223372036854775808 = 9218868437227405312
  ·rw [if_pos h2, if_neg (by omega), if_neg (by omega), if_pos h2]; rfl
  ·rw [if_neg h2]
   by_cases h3 : x % 9223372036854775808 = 0
   ·rw [if_pos h3, if_pos (by omega), h3]; rfl
   ·rw [if_neg h3]
    by_cases h4 : x % 9223372036854775808 < 4503599627370496
    ·rw [if_pos h4, if_pos h4]
     unfold partsR
     simp only [if_neg h3]
     rw [show x % 9223372036854775808 = x % 4503599627370496 by omega]
    ·rw [if_neg h4, if_neg h4, if_pos (by omega)]
     unfold partsR
     simp only [if_neg (show ¬ 4503599627370496 + x % 4503599627370496 = 0 by omega)]
     rw [Nat.add_comm 4503599627370496]
theorem parts_is {x : Nat} {d : Ieee.Datum} (hx : x < 18446744073709551616) (h : Ieee.double.read x = d) : Ev (fun k => spec_PartsOfNumber.f k (x : Int)) (partsR d) := by
 have := spec_parts x hx
 rw [parts_read x hx, h] at this
 exact this
theorem parts_some {x m : Nat} {s : Bool} {i : Int} (hx : x < 18446744073709551616) (h : Ieee.double.read x = .number s m i) (hm : m ≠ 0) : Ev (fun k => spec_PartsOfNumber.f k (x : Int)) (4, s, (m : Int), i) := by
 have := parts_is hx h
 unfold partsR at this
 simp only [if_neg hm] at this
 exact this
theorem impl_nan (x : Nat) (hx : x < 18446744073709551616) : impl_isNaN.f (x : Int) = some (nanB x) := by
 unfold impl_isNaN.f nanB
 rw [and63 x hx]
 congr 1
 rw [decide_eq_decide]; omega
theorem impl_parts (x : Nat) (hx : x < 18446744073709551616) : Ev (fun k => impl_PartsOfNumber.f k (x : Int)) (partsN x) := by
 unfold impl_PartsOfNumber.f
 rw [impl_nan x hx]
 simp only [Option.bind_some]
 have e1 : wrap64 (Go.bits .and .u64 ((x : Int) / 4503599627370496) 2047) = ((x / 4503599627370496 % 2048 : Nat) : Int) := by
  have h1 := and_u64 (x / 4503599627370496) 2047 (by omega) (by omega)
  rw [show (x / 4503599627370496) &&& 2047 = x / 4503599627370496 % 2048 from mask _ 11] at h1
  rw [show (x : Int) / 4503599627370496 = ((x / 4503599627370496 : Nat) : Int) by omega]
  have h2 : Go.bits .and .u64 (((x / 4503599627370496 : Nat) : Int)) 2047 = ((x / 4503599627370496 % 2048 : Nat) : Int) := h1
  rw [h2, w64 (by omega) (by omega)]
 have e2 : Go.bits .and .u64 (x : Int) 4503599627370495 = ((x % 4503599627370496 : Nat) : Int) := by
  have h1 := and_u64 x 4503599627370495 hx (by omega)
  rw [show x &&& 4503599627370495 = x % 4503599627370496 from mask _ 52] at h1
  exact h1
 have e3 : (((x : Int) / 9223372036854775808) == 1) = decide (9223372036854775808 ≤ x) := by rw [Bool.eq_iff_iff]; simp; omega
 rw [e1, e2, e3]
 generalize hb : decide (9223372036854775808 ≤ x) = b
 have hp : partsN x = if 9218868437227405312 < x % 9223372036854775808 then (1, false, 0, 0)
  else if x % 9223372036854775808 = 9218868437227405312 then (2, b, 0, 0)
  else if x % 9223372036854775808 = 0 then (3, b, 0, 0)
  else if x % 9223372036854775808 < 4503599627370496 then (4, b, ((x % 4503599627370496 : Nat) : Int), -1074)
  else (4, b, ((x % 4503599627370496 + 4503599627370496 : Nat) : Int), ((x / 4503599627370496 % 2048 : Nat) : Int) - 1075) := by unfold partsN; rw [hb]
 rw [hp]
 have hj : ∀ (k : Nat) (f e : Int) (z : Bool), impl_PartsOfNumber.j0 (k + 1) b f e z = if z = true then (some (3, b, 0, 0)) else (if e = 0 then (some (4, b, f, (-1074))) else (some (4, b, Go.bits .or .u64 f 4503599627370496, wrap64 (e - 1075)))) := fun _ _ _ _ => rfl
 by_cases h0 : 9218868437227405312 < x % 9223372036854775808
 ·have : nanB x = true := decide_eq_true h0
  rw [if_pos h0]
  simp only [this, if_true]
  exact Ev.now _
 ·have : nanB x = false := decide_eq_false h0
  rw [if_neg h0]
  simp only [this, Bool.false_eq_true, if_false]
  by_cases h1 : x / 4503599627370496 % 2048 = 2047
  ·simp only [if_pos (show ((x / 4503599627370496 % 2048 : Nat) : Int) = 2047 by omega)]
   rw [if_pos (by omega)]
   exact Ev.now _
  ·simp only [if_neg (show ¬ ((x / 4503599627370496 % 2048 : Nat) : Int) = 2047 by omega)]
   rw [if_neg (by omega)]
   by_cases h2 : x / 4503599627370496 % 2048 = 0
   ·simp only [if_pos (show ((x / 4503599627370496 % 2048 : Nat) : Int) = 0 by omega)]
    by_cases h3 : x % 4503599627370496 = 0
    ·rw [if_pos (by omega)]
     exact Ev.step (f := fun _ => some (3, b, 0, 0)) (fun k => by rw [hj, if_pos (by simp [h3])]) (Ev.now _)
    ·rw [if_neg (by omega), if_pos (by omega)]
     exact Ev.step (f := fun _ => some (4, b, ((x % 4503599627370496 : Nat) : Int), -1074)) (fun k => by rw [hj, if_neg (by simp; omega), if_pos (by omega)]) (Ev.now _)
   ·simp only [if_neg (show ¬ ((x / 4503599627370496 % 2048 : Nat) : Int) = 0 by omega)]
    rw [if_neg (by omega), if_neg (by omega)]
    refine Ev.step (f := fun _ => some (4, b, ((x % 4503599627370496 + 4503599627370496 : Nat) : Int), ((x / 4503599627370496 % 2048 : Nat) : Int) - 1075)) (fun k => ?_) (Ev.now _)
    have e4 : Go.bits .or .u64 ((x % 4503599627370496 : Nat) : Int) 4503599627370496 = ((x % 4503599627370496 + 4503599627370496 : Nat) : Int) := by
     have h4 := or_u64 (x % 4503599627370496) 4503599627370496 (by omega) (by omega)
     have h5 := join 1 (x % 4503599627370496) 52 (by omega)
     rw [Nat.or_comm, show (2 ^ 52 * 1 : Nat) = 4503599627370496 from rfl] at h5
     rw [h5, Nat.add_comm] at h4
     exact h4
    rw [hj, if_neg (by simp), if_neg (by omega), e4, w64 (by omega) (by omega)]
theorem ev_const {α : Type} {x : Option α} {r : α} (h : x = some r) : Ev (fun _ => x) r := by rw [h]; exact Ev.now r
theorem ev_if {α : Type} {c : Prop} [Decidable c] {f g : Nat → Option α} {r : α} (h : c) (k : Ev f r) : Ev (fun n => if c then f n else g n) r := Ev.congr (fun _ => if_pos h) k
theorem ev_else {α : Type} {c : Prop} [Decidable c] {f g : Nat → Option α} {r : α} (h : ¬ c) (k : Ev g r) : Ev (fun n => if c then f n else g n) r := Ev.congr (fun _ => if_neg h) k
theorem ev_same {α : Type} {g : Nat → Option α} {a b : α} (ha : Ev g a) (hb : Ev g b) : a = b := by
 obtain ⟨i, hi⟩ := ha
 obtain ⟨j, hj⟩ := hb
 exact Option.some.inj ((hi (i + j) (by omega)).symm.trans (hj (i + j) (by omega)))
theorem sci_given {x u : Nat} {f : Int} (hx : x < 18446744073709551616) (h : SF.Just x u f) : impl_scientific.f (x : Int) 800 = some (decN u, f) := by
 unfold impl_scientific.f G.impl_scientific
 rw [if_pos ⟨by omega, by omega, rfl⟩, Int.toNat_natCast]
 exact G.sciF_is h
theorem impl_bad {x : Nat} (hx : x < 18446744073709551616) {d : Ieee.Datum} (hr : Ieee.double.read x = d) (h4 : (partsR d).1 ≠ 4) : Ev (fun k => impl_Exact.f k (x : Int)) ((⟨#[]⟩ : ByteArray), (0 : Int)) := by
 have he := ev_same (parts_is hx hr) (spec_parts x hx)
 unfold impl_Exact.f
 refine Ev.bind (impl_parts x hx) (ev_else ?_ (Ev.now _))
 rw [← he]; exact h4
theorem impl_good {x M u : Nat} {s : Bool} {e f : Int} (hx : x < 18446744073709551616) (hr : Ieee.double.read x = .number s M e) (hM : M ≠ 0) (q2 : u % 10 ≠ 0) (q5 : (u * 10 ^ f.toNat) * 2 ^ (-e).toNat = (M * 2 ^ e.toNat) * 10 ^ (-f).toNat) :
  Ev (fun k => impl_Exact.f k (x : Int)) (decN u, f) := by
 have he := ev_same (parts_is hx hr) (spec_parts x hx)
 have hs := sci_given hx ⟨q2, s, M, e, hr, hM, q5⟩
 unfold impl_Exact.f
 refine Ev.bind (impl_parts x hx) (ev_if ?_ (Ev.bind (ev_const hs) (Ev.now _)))
 rw [← he]
 simp [partsR, hM]
theorem tail_off : ∀ (n t : Nat), t ≤ n → t ≠ 0 → ∃ q j, t = 10 ^ j * q ∧ q % 10 ≠ 0 := by
 intro n
 induction n with
 | zero => intro t h h0; omega
 | succ n ih =>
  intro t h h0
  by_cases h1 : t % 10 = 0
  ·obtain ⟨q, j, h2, h3⟩ := ih (t / 10) (by omega) (by omega)
   exact ⟨q, j + 1, by rw [Nat.pow_succ, Nat.mul_comm (10 ^ j) 10, Nat.mul_assoc, ← h2]; omega, h3⟩
  ·exact ⟨t, 0, by rw [Nat.pow_zero, Nat.one_mul], h1⟩
theorem figures_any {M : Nat} (e : Int) (hM : M ≠ 0) : ∃ (u : Nat) (f : Int), u % 10 ≠ 0 ∧ (u * 10 ^ f.toNat) * 2 ^ (-e).toNat = (M * 2 ^ e.toNat) * 10 ^ (-f).toNat := by
 rcases Int.lt_or_le e 0 with h | h
 ·obtain ⟨n, rfl⟩ : ∃ n : Nat, e = -(n : Int) := ⟨e.natAbs, by omega⟩
  obtain ⟨q, j, h1, h2⟩ := tail_off (M * 5 ^ n) (M * 5 ^ n) (Nat.le_refl _) (Nat.mul_ne_zero hM (Nat.ne_of_gt (Nat.pow_pos (by omega))))
  refine ⟨q, (j : Int) - n, h2, SF.just_of (a := j) (b := n) (l := 0) (n := n) rfl (by omega) ?_⟩
  rw [Nat.mul_comm q, ← h1, Nat.pow_zero, Nat.mul_one, Nat.mul_assoc, ← Nat.mul_pow]
 ·obtain ⟨n, rfl⟩ : ∃ n : Nat, e = n := ⟨e.toNat, by omega⟩
  obtain ⟨q, j, h1, h2⟩ := tail_off (M * 2 ^ n) (M * 2 ^ n) (Nat.le_refl _) (Nat.mul_ne_zero hM (Nat.ne_of_gt (Nat.pow_pos (by omega))))
  refine ⟨q, (j : Int), h2, SF.just_of (a := j) (b := 0) (l := n) (n := 0) (by omega) (by omega) ?_⟩
  rw [Nat.mul_comm q, ← h1, Nat.pow_zero, Nat.mul_one]
def vM : List Int → Int
 | [] => 0
 | c :: T => (c - 48) * 10 ^ T.length + vM T
def dgI (T : List Int) : Prop := ∀ c ∈ T, 48 ≤ c ∧ c ≤ 57
theorem valD_foldl (l : List UInt8) : ∀ n : Nat, List.foldl (fun n (b : UInt8) => 10 * n + (b.toNat - 48)) n l = n * 10 ^ l.length + valD l := by
 induction l with
 | nil => intro n; simp [valD]
 | cons b l ih =>
  intro n
  unfold valD
  rw [List.foldl_cons, List.foldl_cons, ih, ih, List.length_cons, Nat.pow_succ, Nat.mul_zero, Nat.zero_add]
  rw [Nat.add_mul, Nat.mul_comm 10 n, Nat.mul_assoc n 10, Nat.mul_comm 10 (10 ^ l.length)]
  omega
theorem valD_cons (b : UInt8) (l : List UInt8) : valD (b :: l) = (b.toNat - 48) * 10 ^ l.length + valD l := by
 have := valD_foldl l (10 * 0 + (b.toNat - 48))
 unfold valD
 rw [List.foldl_cons, this, Nat.mul_zero, Nat.zero_add]; rfl
theorem byteOf_toNat (c : Int) (h : 0 ≤ c ∧ c < 256) : ((byteOf c).toNat : Int) = c := by
 unfold byteOf
 have : (UInt8.ofNat c.toNat).toNat = c.toNat := by simp; omega
 rw [this]; omega
theorem vM_valD (T : List Int) (h : dgI T) : ((valD (T.map byteOf) : Nat) : Int) = vM T := by
 induction T with
 | nil => rfl
 | cons c T ih =>
  have hc := h c (by simp)
  have hb := byteOf_toNat c (by omega)
  have := ih (fun d hd => h d (by simp [hd]))
  rw [List.map_cons, valD_cons, List.length_map]
  unfold vM
  rw [← this, Int.natCast_add, Int.natCast_mul, Int.natCast_pow]
  rw [show (((byteOf c).toNat - 48 : Nat) : Int) = c - 48 by omega]
  rfl
theorem map_dg (T : List Int) (h : dgI T) : ∀ b ∈ T.map byteOf, isDg b := by
 intro b hb
 obtain ⟨c, hc, rfl⟩ := List.mem_map.1 hb
 have h1 := h c hc
 have h2 := byteOf_toNat c (by omega)
 unfold isDg; omega
theorem spec_trim_l0 (s : ByteArray) (hs : s.size ≤ 100000) (hd : ∀ b ∈ s.data.toList, isDg b) : ∀ (d i : Nat), s.size - i = d → i + 1 ≤ s.size → valD (s.data.toList.drop i) = valD s.data.toList →
  Ev (fun k => spec_l06Trim.l0 k s (i : Int)) (decN (valD s.data.toList)) := by
 have hl : ∀ (k i : Nat), spec_l06Trim.l0 (k + 1) s (i : Int) = if (wrap64 ((i : Int) + 1)) < (s.size : Int) then (if 0 ≤ (i : Int) then (if (i : Int) < (s.size : Int) then (if (bt s i) = 48 then (spec_l06Trim.l0 k s (wrap64 ((i : Int) + 1))) else (if (s.size : Int) = 0 then (some (⟨#[48]⟩ : ByteArray)) else (if (i : Int) ≤ (s.size : Int) then (some (s.extract (i : Int).toNat s.size)) else (none)))) else (none)) else (none)) else (if (s.size : Int) = 0 then (some (⟨#[48]⟩ : ByteArray)) else (if 0 ≤ (i : Int) then (if (i : Int) ≤ (s.size : Int) then (some (s.extract (i : Int).toNat s.size)) else (none)) else (none))) := fun _ _ => rfl
 have hend : ∀ i : Nat, i + 1 ≤ s.size → valD (s.data.toList.drop i) = valD s.data.toList → (i + 1 < s.size → bt s i ≠ 48) → s.extract i s.size = decN (valD s.data.toList) := by
  intro i hi hv hb
  have hdat : (s.extract i s.size).data.toList = s.data.toList.drop i := by
   simp
   exact List.take_of_length_le (by rw [List.length_drop, size_data]; omega)
  have hsz : (s.extract i s.size).size = s.size - i := by simp
  rw [← hv, ← hdat]
  refine (decN_of (s.extract i s.size) ?_ (by omega) ?_).symm
  ·rw [hdat]; intro b hb2; exact hd b (List.mem_of_mem_drop hb2)
  ·intro ⟨h1, h2⟩
   have h3 := bt_list (s.extract i s.size) 0 (by omega)
   have h4 := bt_list s i (by omega)
   have h5 : (s.extract i s.size).data.toList[0]'(by rw [size_data]; omega) = s.data.toList[i]'(by rw [size_data]; omega) := by
    simp only [hdat]
    rw [List.getElem_drop]; rfl
   rw [h5, ← h4] at h3
   have h6 : bt (s.extract i s.size) ((0 : Nat) : Int) = 48 := h1
   rw [h6] at h3
   exact hb (by omega) h3.symm
 intro d
 induction d with
 | zero => intro i hd2 hi; omega
 | succ d ih =>
  intro i hd2 hi hv
  by_cases h1 : i + 1 < s.size
  ·by_cases hb : bt s i = 48
   ·have hdr := List.drop_eq_getElem_cons (l := s.data.toList) (i := i) (by rw [size_data]; omega)
    have hbi := bt_list s i (by omega)
    have hv2 : valD (s.data.toList.drop (i + 1)) = valD s.data.toList := by
     rw [← hv, hdr, valD_cons]
     have : (s.data.toList[i]'(by rw [size_data]; omega)).toNat = 48 := by omega
     rw [this]; simp
    exact Ev.step (fun k => by rw [hl, w64s (by omega), if_pos (by omega), if_pos (by omega), if_pos (by omega), if_pos hb]) (ih (i + 1) (by omega) (by omega) hv2)
   ·rw [← hend i hi hv (fun _ => hb)]
    exact Ev.step (f := fun _ => some (s.extract i s.size)) (fun k => by rw [hl, w64s (by omega), if_pos (by omega), if_pos (by omega), if_pos (by omega), if_neg hb, if_neg (by omega), if_pos (by omega), Int.toNat_natCast]) (Ev.now _)
  ·rw [← hend i hi hv (fun h => absurd h h1)]
   exact Ev.step (f := fun _ => some (s.extract i s.size)) (fun k => by rw [hl, w64s (by omega), if_neg (by omega), if_neg (by omega), if_pos (by omega), if_pos (by omega), Int.toNat_natCast]) (Ev.now _)
theorem spec_trim (s : ByteArray) (hs : s.size ≤ 100000) (hd : ∀ b ∈ s.data.toList, isDg b) : Ev (fun k => spec_l06Trim.f k s) (decN (valD s.data.toList)) := by
 unfold spec_l06Trim.f
 by_cases h0 : s.size = 0
 ·have hnil : s.data.toList = [] := List.eq_nil_of_length_eq_zero (by rw [size_data]; exact h0)
  rw [hnil]
  exact Ev.step (f := fun _ => some (⟨#[48]⟩ : ByteArray)) (fun k => by simp only [spec_l06Trim.l0]; rw [w64 (by omega) (by omega), if_neg (by omega), if_pos (by omega)]) (Ev.now _)
 ·exact spec_trim_l0 s hs hd s.size 0 (by omega) (by omega) (by simp)
def E9 : Int := 1000000000
theorem e9 (i : Nat) : E9 ^ i = 10 ^ (9 * i) := by
 have : E9 = 10 ^ 9 := rfl
 rw [this, ← Int.pow_mul]
theorem spec_text_l1 (L : List Int) (hL : L.length ≤ 10000) (i : Nat) (hi : i < L.length) (r : ByteArray) : ∀ (d k : Nat) (x : Int) (T : List Int), 9 - k = d → k ≤ 9 → T.length = 9 * i + k → dgI T → 0 ≤ x → x < 10 ^ (9 - k) →
  (∀ T' : List Int, T'.length = 9 * (i + 1) → dgI T' → vM T' = vM T + 10 ^ (9 * i + k) * x → Ev (fun n => spec_l06Text.l0 n L (List.replicate (9 * L.length - 9 * (i + 1)) 0 ++ T') ((i + 1 : Nat) : Int)) r) →
  Ev (fun n => spec_l06Text.l1 n L (List.replicate (9 * L.length - (9 * i + k)) 0 ++ T) (i : Int) x (k : Int)) r := by
 intro d
 induction d with
 | zero =>
  intro k x T hd hk hT hT2 hx0 hx1 hc
  obtain rfl : k = 9 := by omega
  have hx : x = 0 := by
   have : (10 : Int) ^ (9 - 9) = 1 := rfl
   omega
  subst hx
  refine Ev.step (fun n => ?_) (hc T (by omega) hT2 (by omega))
  simp only [spec_l06Text.l1]
  rw [if_neg (by omega), w64s (by omega), show 9 * i + 9 = 9 * (i + 1) by omega]
 | succ d ih =>
  intro k x T hd hk hT hT2 hx0 hx1 hc
  have hpw : (10 : Int) ^ (9 - k) = 10 * 10 ^ (9 - (k + 1)) := by
   rw [show 9 - k = (9 - (k + 1)) + 1 by omega, Int.pow_succ, Int.mul_comm]
  have hx9 : x < 1000000000 := by
   have h1 : (10 : Int) ^ (9 - k) ≤ 10 ^ 9 := by
    rw [show (10 : Int) ^ (9 - k) = ((10 ^ (9 - k) : Nat) : Int) by rw [Int.natCast_pow]; rfl]
    have := Nat.pow_le_pow_right (n := 10) (by omega) (show 9 - k ≤ 9 by omega)
    have h2 : (10 : Int) ^ 9 = 1000000000 := rfl
    omega
   have h2 : (10 : Int) ^ 9 = 1000000000 := rfl
   omega
  have h' := ih (k + 1) (x / 10) ((48 + x % 10) :: T) (by omega) (by omega) (by simp; omega) (by
   intro c hcm
   rcases List.mem_cons.1 hcm with e | e
   ·omega
   ·exact hT2 c e) (by omega) (by
   rw [hpw] at hx1
   generalize (10 : Int) ^ (9 - (k + 1)) = q at *
   omega) (by
   intro T' h1 h2 h3
   refine hc T' h1 h2 ?_
   rw [h3]
   simp only [vM]
   rw [hT, show 9 * i + (k + 1) = (9 * i + k) + 1 by omega, Int.pow_succ]
   generalize (10 : Int) ^ (9 * i + k) = q
   have : x = 10 * (x / 10) + x % 10 := by omega
   generalize x / 10 = u at *
   generalize x % 10 = v at *
   subst this
   grind)
  refine Ev.step (fun n => ?_) h'
  have e1 : wrap64 (wrap64 (wrap64 (9 * wrap64 ((L.length : Int) - (i : Int))) - 1) - (k : Int)) = ((9 * L.length - (9 * i + (k + 1)) : Nat) : Int) := by
   rw [w64 (x := (L.length : Int) - (i : Int)) (by omega) (by omega), w64 (x := 9 * ((L.length : Int) - (i : Int))) (by omega) (by omega), w64 (x := 9 * ((L.length : Int) - (i : Int)) - 1) (by omega) (by omega), w64 (by omega) (by omega)]
   omega
  simp only [spec_l06Text.l1]
  rw [if_pos (by omega), e1, if_pos (by omega), if_pos (by simp; omega), tmodN hx0, tdivN hx0, w64 (x := x / 10) (by omega) (by omega), w64 (x := 48 + x % 10) (by omega) (by omega), show (48 + x % 10) % 256 = 48 + x % 10 by omega, w64s (by omega), Int.toNat_natCast,
   show 9 * L.length - (9 * i + k) = (9 * L.length - (9 * i + (k + 1))) + 1 by omega, set_last]
theorem spec_text_l0 (L : List Int) (hL : L.length ≤ 10000) (h9 : ∀ x ∈ L, 0 ≤ x ∧ x < E9) : ∀ (d i : Nat) (T : List Int), L.length - i = d → i ≤ L.length → T.length = 9 * i → dgI T → vM T = valI E9 (L.take i) →
  Ev (fun n => spec_l06Text.l0 n L (List.replicate (9 * L.length - 9 * i) 0 ++ T) (i : Int)) (decN (valI E9 L).toNat) := by
 intro d
 induction d with
 | zero =>
  intro i T hd hi hT hT2 hv
  obtain rfl : i = L.length := by omega
  rw [List.take_of_length_le (by omega)] at hv
  have hz : 9 * L.length - 9 * L.length = 0 := by omega
  have hdg := map_dg T hT2
  rw [← str_data T] at hdg
  have htr := spec_trim (strOfNums T) (by rw [str_size]; omega) hdg
  have hvd := vM_valD T hT2
  rw [str_data, show valD (T.map byteOf) = (valI E9 L).toNat by omega] at htr
  refine Ev.step (fun n => ?_) (Ev.bind htr (Ev.now _))
  simp only [spec_l06Text.l0]
  rw [if_neg (by omega), hz, List.replicate_zero, List.nil_append]
 | succ d ih =>
  intro i T hd hi hT hT2 hv
  have hx := h9 _ (getD_mem L i (by omega))
  have h10 : (10 : Int) ^ (9 - 0) = E9 := rfl
  have h1 := spec_text_l1 L hL i (by omega) (decN (valI E9 L).toNat) 9 0 (L.getD i 0) T rfl (by omega) (by omega) hT2 hx.1 (by rw [h10]; exact hx.2) (by
   intro T' h2 h3 h4
   refine ih (i + 1) T' (by omega) (by omega) h2 h3 ?_
   rw [h4, hv, valI_take_succ E9 L i (by omega), e9]
   rfl)
  refine Ev.step (fun n => ?_) h1
  simp only [spec_l06Text.l0]
  rw [if_pos (by omega), if_pos (by omega), rd_nat]
  rfl
theorem spec_text (L : List Int) (hL : L.length ≤ 10000) (h9 : ∀ x ∈ L, 0 ≤ x ∧ x < E9) : Ev (fun n => spec_l06Text.f n L) (decN (valI E9 L).toNat) := by
 have h := spec_text_l0 L hL h9 L.length 0 [] (by omega) (by omega) rfl (by intro c hc; simp at hc) (by simp [vM, valI])
 unfold spec_l06Text.f
 rw [w64 (x := 9 * (L.length : Int)) (by omega) (by omega), show 9 * (L.length : Int) = ((9 * L.length : Nat) : Int) by omega, Int.toNat_natCast]
 simp only [if_pos (show (0 : Int) ≤ ((9 * L.length : Nat) : Int) by omega), if_pos (show 9 * L.length ≤ 281474976710656 by omega)]
 simpa using h
theorem spec_at (l : List Int) (i : Nat) : spec_l06At.f l (i : Int) = some (l.getD i 0) := by
 unfold spec_l06At.f
 by_cases h : i < l.length
 ·rw [if_neg (by omega), if_pos (by omega), if_pos (by omega), rd_nat]
 ·rw [if_pos (by omega), getD_out l i (by omega)]
theorem valI_take_succ' (B : Int) (l : List Int) (i : Nat) : valI B (l.take (i + 1)) = valI B (l.take i) + B ^ i * l.getD i 0 := by
 by_cases h : i < l.length
 ·exact valI_take_succ B l i h
 ·rw [getD_out l i (by omega), List.take_of_length_le (by omega), List.take_of_length_le (by omega)]
  simp
theorem getD_range (B : Int) (hB : 0 < B) (l : List Int) (h : ∀ x ∈ l, 0 ≤ x ∧ x < B) (i : Nat) : 0 ≤ l.getD i 0 ∧ l.getD i 0 < B := by
 by_cases hi : i < l.length
 ·exact h _ (getD_mem l i hi)
 ·rw [getD_out l i (by omega)]; omega
theorem spec_mul_l1 (A C : List Int) (hA : ∀ x ∈ A, 0 ≤ x ∧ x < E9) (hC : ∀ x ∈ C, 0 ≤ x ∧ x < E9) (hlA : A.length ≤ 5000) (hlC : C.length ≤ 5000) (i : Nat) (hi : i < A.length) (W : Int) :
    ∀ (d k : Nat) (out : List Int) (c : Int), C.length + 1 - k = d → k ≤ C.length + 1 → out.length = A.length + C.length + 1 → (∀ j, 0 ≤ out.getD j 0 ∧ out.getD j 0 < E9) → (0 ≤ c ∧ c < E9) → (k = C.length + 1 → c = 0) → (k ≤ C.length → out.getD (i + C.length) 0 = 0) → (∀ j, i + C.length < j → out.getD j 0 = 0) → valI E9 out + E9 ^ (i + k) * c = W + A.getD i 0 * E9 ^ i * valI E9 (C.take k) →
    ∃ out' : List Int, out'.length = A.length + C.length + 1 ∧ (∀ j, 0 ≤ out'.getD j 0 ∧ out'.getD j 0 < E9) ∧ (∀ j, i + 1 + C.length ≤ j → out'.getD j 0 = 0) ∧ valI E9 out' = W + A.getD i 0 * E9 ^ i * valI E9 C ∧ ∀ r, Ev (fun n => spec_l06Mul.l0 n A C out' ((i + 1 : Nat) : Int)) r → Ev (fun n => spec_l06Mul.l1 n A C out (i : Int) c (k : Int)) r := by
  have hE : E9 = 1000000000 := rfl
  have hl : ∀ (n : Nat) (out : List Int) (c : Int) (k : Nat), spec_l06Mul.l1 (n + 1) A C out (i : Int) c (k : Int) =
      (let body : Option (List Int) := if 0 ≤ (wrap64 ((i : Int) + k)) then (if (wrap64 ((i : Int) + k)) < (out.length : Int) then (if 0 ≤ (i : Int) then (if (i : Int) < (A.length : Int) then ((spec_l06At.f C k).bind fun t114 => (spec_l06Mul.l1 n A C (out.set ((wrap64 ((i : Int) + k)) : Int).toNat (Int.tmod (wrap64 ((wrap64 ((rd out (wrap64 ((i : Int) + k))) + c)) + (wrap64 ((rd A i) * t114)))) 1000000000)) i (wrap64 (Int.tdiv (wrap64 ((wrap64 ((rd out (wrap64 ((i : Int) + k))) + c)) + (wrap64 ((rd A i) * t114)))) 1000000000)) (wrap64 ((k : Int) + 1)))) else (none)) else (none)) else (none)) else (none)
       if (k : Int) < (C.length : Int) then body else (if c > 0 then body else (spec_l06Mul.l0 n A C out (wrap64 ((i : Int) + 1))))) := fun _ _ _ _ => rfl
  intro d
  have hstop : ∀ (k : Nat) (out : List Int), C.length ≤ k → k ≤ C.length + 1 → out.length = A.length + C.length + 1 → (∀ j, 0 ≤ out.getD j 0 ∧ out.getD j 0 < E9) → (k ≤ C.length → out.getD (i + C.length) 0 = 0) → (∀ j, i + C.length < j → out.getD j 0 = 0) → valI E9 out + E9 ^ (i + k) * 0 = W + A.getD i 0 * E9 ^ i * valI E9 (C.take k) →
      ∃ out' : List Int, out'.length = A.length + C.length + 1 ∧ (∀ j, 0 ≤ out'.getD j 0 ∧ out'.getD j 0 < E9) ∧ (∀ j, i + 1 + C.length ≤ j → out'.getD j 0 = 0) ∧ valI E9 out' = W + A.getD i 0 * E9 ^ i * valI E9 C ∧ ∀ r, Ev (fun n => spec_l06Mul.l0 n A C out' ((i + 1 : Nat) : Int)) r → Ev (fun n => spec_l06Mul.l1 n A C out (i : Int) 0 (k : Int)) r := by
    intro k out hk hk2 hol ho _ hz hv
    rw [List.take_of_length_le hk, Int.mul_zero, Int.add_zero] at hv
    refine ⟨out, hol, ho, (fun j hj => hz j (by omega)), hv, fun r hr => Ev.step (fun n => ?_) hr⟩
    rw [hl]
    simp only
    rw [if_neg (by omega), if_neg (by omega), w64s (by omega)]
  induction d with
  | zero =>
    intro k out c hd hk hol ho hc hc0 hz1 hz hv
    have hk' : k = C.length + 1 := by omega
    obtain rfl := hc0 hk'
    exact hstop k out (by omega) hk hol ho hz1 hz hv
  | succ d ih =>
    intro k out c hd hk hol ho hc hc0 hz1 hz hv
    by_cases hgo : k < C.length ∨ c > 0
    · have hkC : k ≤ C.length := by
        rcases Nat.lt_or_ge k (C.length + 1) with h | h
        · omega
        · exact absurd (hc0 (by omega)) (by omega)
      have ha := getD_range E9 (by decide) A hA i
      have hb := getD_range E9 (by decide) C hC k
      have hob := ho (i + k)
      have hvC := valI_take_succ' E9 C k
      have hm0 : 0 ≤ A.getD i 0 * C.getD k 0 := Int.mul_nonneg ha.1 hb.1
      have hm1 : A.getD i 0 * C.getD k 0 ≤ 999999999 * 999999999 := by
        have := Int.mul_le_mul (show A.getD i 0 ≤ 999999999 by omega) (show C.getD k 0 ≤ 999999999 by omega) hb.1 (by omega)
        exact this
      generalize hx : out.getD (i + k) 0 + c + A.getD i 0 * C.getD k 0 = x
      have hx0 : 0 ≤ x ∧ x < 1000000000 * 1000000000 := by omega
      have hset := valI_set E9 (x % 1000000000) out (i + k) (by omega)
      have hv' : valI E9 (out.set (i + k) (x % 1000000000)) + E9 ^ (i + (k + 1)) * (x / 1000000000) = W + A.getD i 0 * E9 ^ i * valI E9 (C.take (k + 1)) := by
        rw [hset, hvC, show i + (k + 1) = (i + k) + 1 by omega, Int.pow_succ]
        rw [Int.mul_add]
        have hpa : A.getD i 0 * E9 ^ i * (E9 ^ k * C.getD k 0) = E9 ^ (i + k) * (A.getD i 0 * C.getD k 0) := by
          rw [Int.pow_add]
          generalize E9 ^ i = p
          generalize E9 ^ k = q
          grind
        rw [hpa]
        have hxx : x = 1000000000 * (x / 1000000000) + x % 1000000000 := by omega
        rw [hE] at hv ⊢
        generalize (1000000000 : Int) ^ (i + k) = P at hv ⊢
        have q1 : P * x = P * out.getD (i + k) 0 + P * c + P * (A.getD i 0 * C.getD k 0) := by rw [← hx, Int.mul_add, Int.mul_add]
        have q2 : P * x = 1000000000 * (P * (x / 1000000000)) + P * (x % 1000000000) := by
          conv => lhs; rw [hxx]
          rw [Int.mul_add, Int.mul_left_comm]
        have q3 : P * 1000000000 * (x / 1000000000) = 1000000000 * (P * (x / 1000000000)) := by rw [Int.mul_assoc, Int.mul_left_comm]
        rw [q3, Int.mul_sub]
        omega
      have hset_get : ∀ j, (out.set (i + k) (x % 1000000000)).getD j 0 = if j = i + k then x % 1000000000 else out.getD j 0 := by
        intro j
        by_cases h : j = i + k
        · subst h; rw [if_pos rfl, getD_set_eq _ _ _ (by omega)]
        · rw [if_neg h, getD_set_ne _ _ _ _ (fun h2 => h h2.symm)]
      have h' := ih (k + 1) (out.set (i + k) (x % 1000000000)) (x / 1000000000) (by omega) (by omega) (by simp; omega) (by
        intro j
        rw [hset_get]
        split
        · omega
        · exact ho j) (by omega) (by
        intro hk1
        have hkc : k = C.length := by omega
        have h0 : C.getD k 0 = 0 := getD_out C k (by omega)
        have h1 : out.getD (i + k) 0 = 0 := by rw [hkc]; exact hz1 (by omega)
        rw [h0, h1, Int.mul_zero] at hx
        omega) (by
        intro hk1
        rw [hset_get, if_neg (by omega)]
        exact hz1 (by omega)) (by
        intro j hj
        rw [hset_get, if_neg (by omega)]
        exact hz j hj) hv'
      obtain ⟨out', p1, p2, p3, p4, p5⟩ := h'
      refine ⟨out', p1, p2, p3, p4, fun r hr => Ev.step (fun n => ?_) (p5 r hr)⟩
      rw [hl]
      simp only
      clear hv' hset hvC hv hstop ih hset_get p2 p3 p4 p5 hr ho hz
      have f1 : (0 : Int) ≤ ((i + k : Nat) : Int) := by omega
      have f2 : ((i + k : Nat) : Int) < (out.length : Int) := by omega
      have f3 : (0 : Int) ≤ (i : Int) := by omega
      have f4 : (i : Int) < (A.length : Int) := by omega
      have b1 : -9223372036854775808 ≤ out.getD (i + k) 0 + c ∧ out.getD (i + k) 0 + c < 9223372036854775808 := by omega
      have b2 : -9223372036854775808 ≤ A.getD i 0 * C.getD k 0 ∧ A.getD i 0 * C.getD k 0 < 9223372036854775808 := by omega
      have b3 : -9223372036854775808 ≤ x ∧ x < 9223372036854775808 := by omega
      have b4 : -9223372036854775808 ≤ x / 1000000000 ∧ x / 1000000000 < 9223372036854775808 := by omega
      have b5 : k < 9223372036854775807 := by omega
      have b6 : -9223372036854775808 ≤ (i : Int) + (k : Int) ∧ (i : Int) + (k : Int) < 9223372036854775808 := by omega
      have g1 : (k : Int) < (C.length : Int) ∨ (¬ (k : Int) < (C.length : Int) ∧ c > 0) := by omega
      have hw : wrap64 ((i : Int) + (k : Int)) = ((i + k : Nat) : Int) := w64 b6.1 b6.2
      have hbody : (if 0 ≤ (wrap64 ((i : Int) + k)) then (if (wrap64 ((i : Int) + k)) < (out.length : Int) then (if 0 ≤ (i : Int) then (if (i : Int) < (A.length : Int) then ((spec_l06At.f C k).bind fun t114 => (spec_l06Mul.l1 n A C (out.set ((wrap64 ((i : Int) + k)) : Int).toNat (Int.tmod (wrap64 ((wrap64 ((rd out (wrap64 ((i : Int) + k))) + c)) + (wrap64 ((rd A i) * t114)))) 1000000000)) i (wrap64 (Int.tdiv (wrap64 ((wrap64 ((rd out (wrap64 ((i : Int) + k))) + c)) + (wrap64 ((rd A i) * t114)))) 1000000000)) (wrap64 ((k : Int) + 1)))) else (none)) else (none)) else (none)) else (none)) = spec_l06Mul.l1 n A C (out.set (i + k) (x % 1000000000)) i (x / 1000000000) ((k + 1 : Nat) : Int) := by
        rw [hw, if_pos f1, if_pos f2, if_pos f3, if_pos f4, spec_at]
        simp only [Option.bind_some]
        rw [rd_nat, rd_nat, w64 b1.1 b1.2, w64 b2.1 b2.2, hx, w64 b3.1 b3.2, tmodN hx0.1, tdivN hx0.1, w64 b4.1 b4.2, w64s b5, Int.toNat_natCast]
      rw [hbody]
      rcases g1 with h3 | h3
      · rw [if_pos h3]
      · rw [if_neg h3.1, if_pos h3.2]
    · obtain rfl : c = 0 := by omega
      exact hstop k out (by omega) hk hol ho hz1 hz hv
theorem spec_mul_l0 (A C : List Int) (hA : ∀ x ∈ A, 0 ≤ x ∧ x < E9) (hC : ∀ x ∈ C, 0 ≤ x ∧ x < E9) (hlA : A.length ≤ 5000) (hlC : C.length ≤ 5000) :
  ∀ (d i : Nat) (out : List Int), A.length - i = d → i ≤ A.length → out.length = A.length + C.length + 1 → (∀ j, 0 ≤ out.getD j 0 ∧ out.getD j 0 < E9) → (∀ j, i + C.length ≤ j → out.getD j 0 = 0) → valI E9 out = valI E9 (A.take i) * valI E9 C →
  ∃ L : List Int, Ev (fun n => spec_l06Mul.l0 n A C out (i : Int)) L ∧ L.length = A.length + C.length + 1 ∧ (∀ j, 0 ≤ L.getD j 0 ∧ L.getD j 0 < E9) ∧ valI E9 L = valI E9 A * valI E9 C := by
 intro d
 induction d with
 | zero =>
  intro i out hd hi hol ho hz hv
  obtain rfl : i = A.length := by omega
  rw [List.take_of_length_le (by omega)] at hv
  exact ⟨out, Ev.step (f := fun _ => some out) (fun n => by simp only [spec_l06Mul.l0]; rw [if_neg (by omega)]) (Ev.now _), hol, ho, hv⟩
 | succ d ih =>
  intro i out hd hi hol ho hz hv
  have hvA := valI_take_succ' E9 A i
  have h9 : (0 : Int) < E9 := by decide
  obtain ⟨out', p1, p2, p3, p4, p5⟩ := spec_mul_l1 A C hA hC hlA hlC i (by omega) (valI E9 (A.take i) * valI E9 C) (C.length + 1) 0 out 0 (by omega) (by omega) hol ho (by omega) (by omega) (fun _ => hz _ (by omega)) (fun j hj => hz j (by omega)) (by rw [hv]; simp [valI])
  obtain ⟨L, h1, h2⟩ := ih (i + 1) out' (by omega) (by omega) p1 p2 (fun j hj => p3 j (by omega)) (by
   rw [p4, hvA, Int.add_mul]
   rw [Int.mul_comm (E9 ^ i)])
  refine ⟨L, ?_, h2⟩
  refine Ev.step (fun n => ?_) (p5 L h1)
  simp only [spec_l06Mul.l0]
  rw [if_pos (by omega)]
  rfl
theorem getD_all (B : Int) (L : List Int) (h : ∀ j, 0 ≤ L.getD j 0 ∧ L.getD j 0 < B) : ∀ x ∈ L, 0 ≤ x ∧ x < B := by
 intro x hx
 obtain ⟨j, hj, rfl⟩ := List.getElem_of_mem hx
 have := h j
 rw [List.getD_eq_getElem?_getD, List.getElem?_eq_getElem hj] at this
 exact this
theorem spec_mul (A C : List Int) (hA : ∀ x ∈ A, 0 ≤ x ∧ x < E9) (hC : ∀ x ∈ C, 0 ≤ x ∧ x < E9) (hlA : A.length ≤ 5000) (hlC : C.length ≤ 5000) :
  ∃ L : List Int, Ev (fun n => spec_l06Mul.f n A C) L ∧ L.length = A.length + C.length + 1 ∧ (∀ x ∈ L, 0 ≤ x ∧ x < E9) ∧ valI E9 L = valI E9 A * valI E9 C := by
 have h9 : (0 : Int) < E9 := by decide
 obtain ⟨L, h1, h2, h3, h4⟩ := spec_mul_l0 A C hA hC hlA hlC A.length 0 (List.replicate (A.length + C.length + 1) 0) (by omega) (by omega) (by simp) (fun j => by rw [getD_zeros]; omega) (fun j _ => getD_zeros _ _) (by rw [valI_zeros]; simp [valI])
 refine ⟨L, ?_, h2, getD_all E9 L h3, h4⟩
 unfold spec_l06Mul.f
 rw [w64 (x := (A.length : Int) + (C.length : Int)) (by omega) (by omega), w64 (x := (A.length : Int) + (C.length : Int) + 1) (by omega) (by omega), show (A.length : Int) + (C.length : Int) + 1 = ((A.length + C.length + 1 : Nat) : Int) by omega, Int.toNat_natCast]
 simp only [if_pos (show (0 : Int) ≤ ((A.length + C.length + 1 : Nat) : Int) by omega), if_pos (show A.length + C.length + 1 ≤ 35184372088832 by omega)]
 exact h1
theorem spec_limbs_l1 (s : ByteArray) (hs : s.size ≤ 100000) (hd : ∀ b ∈ s.data.toList, isDg b) (out : List Int) (hout : out.length ≤ 20000) (e fr : Nat) (hfe : fr ≤ e) (he : e ≤ s.size) (h9 : e - fr ≤ 9) (r : List Int) :
  ∀ (d i : Nat) (x : Int), e - i = d → fr ≤ i → i ≤ e → 0 ≤ x → x < 10 ^ (i - fr) → ((valD (s.data.toList.take i) : Nat) : Int) = 10 ^ (i - fr) * ((valD (s.data.toList.take fr) : Nat) : Int) + x →
  (∀ y : Int, 0 ≤ y → y < E9 → ((valD (s.data.toList.take e) : Nat) : Int) = 10 ^ (e - fr) * ((valD (s.data.toList.take fr) : Nat) : Int) + y → Ev (fun k => spec_l06Limbs.l0 k s (out ++ [y]) ((e : Int) - 9)) r) →
  Ev (fun k => spec_l06Limbs.l1 k s out (e : Int) x (i : Int)) r := by
 have hpw : ∀ j : Nat, j ≤ 9 → (10 : Int) ^ j ≤ 1000000000 := by
  intro j hj
  rw [show (10 : Int) ^ j = ((10 ^ j : Nat) : Int) by rw [Int.natCast_pow]; rfl]
  have := Nat.pow_le_pow_right (n := 10) (by omega) hj
  omega
 intro d
 induction d with
 | zero =>
  intro i x hd2 hi1 hi2 hx0 hx1 hv hc
  obtain rfl : i = e := by omega
  have := hpw (i - fr) h9
  refine Ev.step (fun k => ?_) (hc x hx0 (by unfold E9; omega) hv)
  simp only [spec_l06Limbs.l1]
  rw [if_neg (by omega), if_pos (by omega), w64 (by omega) (by omega)]
 | succ d ih =>
  intro i x hd2 hi1 hi2 hx0 hx1 hv hc
  have hlt : i < s.size := by omega
  have hb := bt_list s i hlt
  have hdg := hd _ (List.getElem_mem (l := s.data.toList) (n := i) (by simpa using hlt))
  unfold isDg at hdg
  have htk := List.take_succ_eq_append_getElem (l := s.data.toList) (i := i) (by simpa using hlt)
  generalize s.data.toList[i]'(by simpa using hlt) = b at *
  have hp1 := hpw (i - fr) (by omega)
  have hps : (10 : Int) ^ (i + 1 - fr) = 10 ^ (i - fr) * 10 := by rw [show i + 1 - fr = (i - fr) + 1 by omega, Int.pow_succ]
  have h' := ih (i + 1) (10 * x + ((b.toNat : Int) - 48)) (by omega) (by omega) (by omega) (by omega) (by
   rw [hps]
   generalize (10 : Int) ^ (i - fr) = q at *
   omega) (by
   rw [htk, valD_snoc, hps, show ((10 * valD (s.data.toList.take i) + (b.toNat - 48) : Nat) : Int) = 10 * ((valD (s.data.toList.take i) : Nat) : Int) + ((b.toNat : Int) - 48) by omega, hv]
   grind) hc
  refine Ev.step (fun k => ?_) h'
  simp only [spec_l06Limbs.l1]
  rw [if_pos (by omega), if_pos (by omega), if_pos (by omega), hb, w64 (x := 10 * x) (by omega) (by omega), w64 (x := (b.toNat : Int)) (by omega) (by omega), w64 (x := 10 * x + (b.toNat : Int)) (by omega) (by omega), w64 (x := 10 * x + (b.toNat : Int) - 48) (by omega) (by omega), w64s (by omega),
   show 10 * x + (b.toNat : Int) - 48 = 10 * x + ((b.toNat : Int) - 48) by omega]
theorem spec_limbs_l0 (s : ByteArray) (hs : s.size ≤ 100000) (hd : ∀ b ∈ s.data.toList, isDg b) : ∀ (n e : Nat) (out : List Int), e ≤ 9 * n → e ≤ s.size → out.length ≤ 12000 → out.length * 9 + e ≤ s.size + 9 → (∀ x ∈ out, 0 ≤ x ∧ x < E9) → ((valD s.data.toList : Nat) : Int) = valI E9 out + E9 ^ out.length * ((valD (s.data.toList.take e) : Nat) : Int) →
  ∃ L : List Int, (∀ z : Int, z = (e : Int) → Ev (fun k => spec_l06Limbs.l0 k s out z) L) ∧ (∀ x ∈ L, 0 ≤ x ∧ x < E9) ∧ valI E9 L = ((valD s.data.toList : Nat) : Int) ∧ L.length ≤ out.length + (e + 8) / 9 ∧ (1 ≤ e → (e + 8) / 9 + out.length ≤ L.length) := by
 intro n
 have hzero : ∀ (out : List Int), (∀ z : Int, z ≤ 0 → Ev (fun k => spec_l06Limbs.l0 k s out z) out) := by
  intro out z hz
  exact Ev.step (f := fun _ => some out) (fun k => by simp only [spec_l06Limbs.l0]; rw [if_neg (by omega)]) (Ev.now _)
 induction n with
 | zero =>
  intro e out he _ _ _ ho hv
  obtain rfl : e = 0 := by omega
  refine ⟨out, fun z hz => hzero out z (by omega), ho, ?_, by omega, by omega⟩
  rw [hv]; simp [valD]
 | succ n ih =>
  intro e out he hes hol hbal ho hv
  by_cases h0 : e = 0
  ·subst h0
   refine ⟨out, fun z hz => hzero out z (by omega), ho, ?_, by omega, by omega⟩
   rw [hv]; simp [valD]
  ·-- one more limb
   have hj : ∀ (k : Nat) (fr : Int), spec_l06Limbs.j1 (k + 1) s out (e : Int) fr = spec_l06Limbs.l1 k s out (e : Int) 0 fr := fun _ _ => rfl
   by_cases h9 : e < 9
   ·-- the last one
    have hy : ((valD (s.data.toList.take e) : Nat) : Int) < E9 := by
     have h1 := valD_lt (s.data.toList.take e) (fun b hb => hd b (List.mem_of_mem_take hb))
     have h2 : (s.data.toList.take e).length = e := by rw [List.length_take, size_data]; omega
     rw [h2] at h1
     have := Nat.pow_le_pow_right (n := 10) (by omega) (show e ≤ 9 by omega)
     unfold E9; omega
    refine ⟨out ++ [((valD (s.data.toList.take e) : Nat) : Int)], ?_, ?_, ?_, ?_, ?_⟩
    ·intro z hz
     subst hz
     have h1 := spec_limbs_l1 s hs hd out (by omega) e 0 (by omega) hes (by omega) (out ++ [((valD (s.data.toList.take e) : Nat) : Int)]) e 0 0 (by omega) (by omega) (by omega) (by omega) (by show (0 : Int) < 10 ^ (0 - 0); decide) (by simp [valD]) (by
      intro y _ _ hy3
      have : y = ((valD (s.data.toList.take e) : Nat) : Int) := by
       rw [hy3]; simp [valD]
      rw [this]
      exact hzero _ _ (by omega))
     exact Ev.step (f := fun k => spec_l06Limbs.j1 k s out (e : Int) 0) (fun k => by simp only [spec_l06Limbs.l0]; rw [if_pos (by omega), w64 (by omega) (by omega), if_pos (by omega)]) (Ev.step (fun k => by rw [hj]; rfl) h1)
    ·intro x hx
     rcases List.mem_append.1 hx with h | h
     ·exact ho x h
     ·rw [List.mem_singleton.1 h]; exact ⟨by omega, hy⟩
    ·rw [valI_append, hv]; simp [valI]
    ·simp; omega
    ·intro _; simp; omega
   ·-- nine figures
    obtain ⟨c, rfl⟩ : ∃ c, e = c + 9 := ⟨e - 9, by omega⟩
    have hE : (10 : Int) ^ (c + 9 - c) = E9 := by rw [show c + 9 - c = 9 by omega]; rfl
    -- the limb itself
    obtain ⟨y, hy0, hy1, hyv⟩ : ∃ y : Int, 0 ≤ y ∧ y < E9 ∧ ((valD (s.data.toList.take (c + 9)) : Nat) : Int) = E9 * ((valD (s.data.toList.take c) : Nat) : Int) + y := by
     have hsp : s.data.toList.take (c + 9) = s.data.toList.take c ++ (s.data.toList.drop c).take 9 := by rw [List.take_add]
     have hlen : ((s.data.toList.drop c).take 9).length = 9 := by rw [List.length_take, List.length_drop, size_data]; omega
     have hdg2 : ∀ b ∈ (s.data.toList.drop c).take 9, isDg b := fun b hb => hd b (List.mem_of_mem_drop (List.mem_of_mem_take hb))
     refine ⟨((valD ((s.data.toList.drop c).take 9) : Nat) : Int), by omega, ?_, ?_⟩
     ·have := valD_lt _ hdg2
      rw [hlen] at this
      unfold E9; omega
     ·rw [hsp]
      have h1 : valD (s.data.toList.take c ++ (s.data.toList.drop c).take 9) = valD (s.data.toList.take c) * 10 ^ 9 + valD ((s.data.toList.drop c).take 9) := by
       have := valD_foldl ((s.data.toList.drop c).take 9) (valD (s.data.toList.take c))
       rw [hlen] at this
       rw [← this]
       show valD _ = _
       unfold valD
       rw [List.foldl_append]
      rw [h1]
      unfold E9
      omega
    have hvn : ((valD s.data.toList : Nat) : Int) = valI E9 (out ++ [y]) + E9 ^ (out ++ [y]).length * ((valD (s.data.toList.take c) : Nat) : Int) := by
     rw [hv, valI_append, hyv]
     simp only [valI, List.length_append, List.length_cons, List.length_nil, Nat.zero_add, Int.pow_succ]
     grind
    obtain ⟨L, h1, h2, h3, h4, h5⟩ := ih c (out ++ [y]) (by omega) (by omega) (by simp; omega) (by simp; omega) (by
     intro x hx
     rcases List.mem_append.1 hx with h | h
     ·exact ho x h
     ·rw [List.mem_singleton.1 h]; exact ⟨hy0, hy1⟩) hvn
    refine ⟨L, ?_, h2, h3, ?_, ?_⟩
    ·intro z hz
     subst hz
     have hl1 := spec_limbs_l1 s hs hd out (by omega) (c + 9) c (by omega) hes (by omega) L (c + 9 - c) c 0 (by omega) (by omega) (by omega) (by omega) (by rw [Nat.sub_self]; decide) (by rw [Nat.sub_self]; simp) (by
      intro y' _ _ hy3
      rw [hE, hyv] at hy3
      have : y' = y := by omega
      rw [this]
      exact h1 _ (by omega))
     refine Ev.step (f := fun k => spec_l06Limbs.j1 k s out ((c + 9 : Nat) : Int) (c : Int)) (fun k => ?_) (Ev.step (fun k => by rw [hj]) hl1)
     simp only [spec_l06Limbs.l0]
     rw [if_pos (by omega), w64 (by omega) (by omega), if_neg (by omega), show ((c + 9 : Nat) : Int) - 9 = (c : Int) by omega]
    ·simp at h4; omega
    ·intro _
     by_cases hc : 1 ≤ c
     ·have := h5 hc; simp at this; omega
     ·have hlL : out.length + 1 ≤ L.length := by
       have hc0 : c = 0 := by omega
       subst hc0
       have hle : (out ++ [y]).length = out.length + 1 := by simp
       have := h1 0 rfl
       have hz := hzero (out ++ [y]) 0 (by omega)
       obtain ⟨K1, hK1⟩ := this
       obtain ⟨K2, hK2⟩ := hz
       have q1 := hK1 (max K1 K2) (by omega)
       have q2 := hK2 (max K1 K2) (by omega)
       have : L = out ++ [y] := by rw [q1] at q2; exact Option.some.inj q2
       rw [this, hle]
       omega
      omega
theorem spec_limbs (s : ByteArray) (hs : s.size ≤ 100000) (hd : ∀ b ∈ s.data.toList, isDg b) :
  ∃ L : List Int, Ev (fun k => spec_l06Limbs.f k s) L ∧ (∀ x ∈ L, 0 ≤ x ∧ x < E9) ∧ valI E9 L = ((valD s.data.toList : Nat) : Int) ∧ L.length ≤ (s.size + 8) / 9 ∧ (1 ≤ s.size → (s.size + 8) / 9 ≤ L.length) := by
 obtain ⟨L, h1, h2, h3, h4, h5⟩ := spec_limbs_l0 s hs hd s.size s.size [] (by omega) (by omega) (by simp) (by simp) (by simp) (by rw [List.take_of_length_le (by rw [size_data]; omega)]; simp [valI])
 refine ⟨L, ?_, h2, h3, by simpa using h4, by simpa using h5⟩
 unfold spec_l06Limbs.f
 exact h1 _ rfl
theorem fig_limbs (a : ByteArray) (h : figOk a = true) : ∃ L : List Int, Ev (fun k => spec_l06Limbs.f k a) L ∧ (∀ x ∈ L, 0 ≤ x ∧ x < E9) ∧ valI E9 L = ((valD a.data.toList : Nat) : Int) ∧ L.length = (a.size + 8) / 9 ∧ L.length ≤ 89 ∧ 1 ≤ L.length := by
 obtain ⟨a1, a2, a3, _⟩ := figOk_parts a h
 obtain ⟨L, h1, h2, h3, h4, h5⟩ := spec_limbs a (by omega) a3
 have := h5 a1
 exact ⟨L, h1, h2, h3, by omega, by omega, by omega⟩
theorem spec_fits (v : Nat) : spec_l06Fits.f (decN v) = some (fitsT v) := by
 unfold spec_l06Fits.f fitsT
 by_cases h : (decN v).size ≤ 800
 ·rw [if_neg (by omega), if_pos h]
 ·rw [if_pos (by omega), if_neg h]
theorem spec_in (a b c : Int) : spec_l01In.f a b c = some (decide (b ≤ a ∧ a ≤ c)) := by
 unfold spec_l01In.f
 by_cases h : a ≥ b
 ·rw [if_pos h]; simp; omega
 ·rw [if_neg h]; simp; omega
theorem spec_fig_l0 (s : ByteArray) (hs : s.size ≤ 140737488351232) : ∀ (d i : Nat), s.size - i = d → Ev (fun k => spec_FiguresOk.l0 k s i) (digB s i) := by
 intro d
 induction d with
 | zero =>
  intro i hd
  rw [digB_end s i (by omega)]
  exact Ev.step (f := fun _ => some true) (fun k => by simp only [spec_FiguresOk.l0]; rw [if_neg (by omega)]) (Ev.now _)
 | succ d ih =>
  intro i hd
  by_cases h1 : bt s i < 48
  ·rw [digB_no s i (by omega) (.inl h1)]
   exact Ev.step (f := fun _ => some false) (fun k => by simp only [spec_FiguresOk.l0]; rw [if_pos (by omega), if_pos (by omega), if_pos h1]) (Ev.now _)
  ·by_cases h2 : bt s i > 57
   ·rw [digB_no s i (by omega) (.inr h2)]
    exact Ev.step (f := fun _ => some false) (fun k => by simp only [spec_FiguresOk.l0]; rw [if_pos (by omega), if_pos (by omega), if_neg h1, if_pos h2]) (Ev.now _)
   ·rw [digB_yes s i (by omega)]
    exact Ev.step (fun k => by simp only [spec_FiguresOk.l0]; rw [if_pos (by omega), if_pos (by omega), if_neg h1, if_neg h2, w64 (by omega) (by omega)]; rfl) (ih (i + 1) (by omega))
theorem spec_fig (s : ByteArray) (hs : s.size ≤ 140737488351232) : Ev (fun k => spec_FiguresOk.f k s) (figOk s) := by
 have h0 := spec_fig_l0 s hs s.size 0 (by omega)
 unfold spec_FiguresOk.f
 rw [spec_in]
 simp only [Option.bind_some]
 by_cases h1 : 1 ≤ s.size ∧ s.size ≤ 800
 ·have e1 : decide ((1 : Int) ≤ (s.size : Int) ∧ (s.size : Int) ≤ 800) = true := decide_eq_true (by omega)
  simp only [e1, if_true]
  by_cases h2 : (s.size : Int) > 1
  ·simp only [if_pos h2, if_pos (show (0 : Int) < (s.size : Int) by omega)]
   by_cases h3 : bt s 0 = 48
   ·have e : figOk s = false := by unfold figOk; simp [h3]; omega
    rw [e]
    exact Ev.step (f := fun _ => some false) (fun k => by simp [spec_FiguresOk.j0, h3]) (Ev.now _)
   ·have e : figOk s = digB s 0 := by unfold figOk; simp [h3, h1]
    rw [e]
    exact Ev.step (fun k => by simp only [spec_FiguresOk.j0]; rw [if_neg (by simpa using h3)]; rfl) h0
  ·simp only [if_neg h2]
   have e : figOk s = digB s 0 := by
    unfold figOk
    have : decide (1 < s.size) = false := decide_eq_false (by omega)
    simp [h1, this]
   rw [e]
   exact Ev.step (fun k => by simp only [spec_FiguresOk.j0]; rw [if_neg (by simp)]; rfl) h0
 ·have e1 : decide ((1 : Int) ≤ (s.size : Int) ∧ (s.size : Int) ≤ 800) = false := decide_eq_false (by omega)
  have e : figOk s = false := by unfold figOk; rw [decide_eq_false h1]; rfl
  simp only [e1, e]
  exact Ev.step (f := fun _ => some false) (fun k => by simp [spec_FiguresOk.j0]) (Ev.now _)
def mulG (a b : ByteArray) : ByteArray × Bool := if figOk a = true ∧ figOk b = true then fitsT (valD a.data.toList * valD b.data.toList) else (⟨#[]⟩, false)
theorem spec_greatMul (a b : ByteArray) (hsa : a.size ≤ 140737488351232) (hsb : b.size ≤ 140737488351232) : Ev (fun k => spec_GreatMul.f k a b) (mulG a b) := by
 have hj : ∀ (k : Nat) (z : Bool), spec_GreatMul.j0 (k + 1) a b z = if z = true then (some ((⟨#[]⟩ : ByteArray), false)) else ((spec_l06Limbs.f k a).bind fun t128 => ((spec_l06Limbs.f k b).bind fun t131 => ((spec_l06Mul.f k t128 t131).bind fun t134 => ((spec_l06Text.f k t134).bind fun t137 => ((spec_l06Fits.f t137).bind fun bt138 => (some (bt138.1, bt138.2))))))) := fun _ _ => rfl
 have hbad : mulG a b = (⟨#[]⟩, false) → Ev (fun k => spec_GreatMul.j0 k a b true) (mulG a b) := by
  intro h; rw [h]
  exact Ev.step (f := fun _ => some (⟨#[]⟩, false)) (fun k => by rw [hj, if_pos rfl]) (Ev.now _)
 unfold spec_GreatMul.f
 refine Ev.bind (spec_fig a hsa) ?_
 by_cases h1 : figOk a = true
 ·simp only [h1, if_true]
  refine Ev.bind (spec_fig b hsb) ?_
  by_cases h2 : figOk b = true
  ·rw [h2]
   have e : mulG a b = fitsT (valD a.data.toList * valD b.data.toList) := by unfold mulG; rw [if_pos ⟨h1, h2⟩]
   obtain ⟨A, hA, hA9, hAv, _, hAl, _⟩ := fig_limbs a h1
   obtain ⟨C, hC, hC9, hCv, _, hCl, _⟩ := fig_limbs b h2
   obtain ⟨L, hL, hLl, hL9, hLv⟩ := spec_mul A C hA9 hC9 (by omega) (by omega)
   have ht := spec_text L (by omega) hL9
   rw [hLv, hAv, hCv, ← Int.natCast_mul, Int.toNat_natCast] at ht
   rw [e]
   refine Ev.step (fun k => by rw [hj, if_neg (by simp)]) (Ev.bind hA (Ev.bind hC (Ev.bind hL (Ev.bind ht ?_))))
   rw [spec_fits]
   exact Ev.now _
  ·rw [Bool.not_eq_true] at h2
   rw [h2]
   exact hbad (by unfold mulG; rw [if_neg (fun hh => by rw [h2] at hh; exact absurd hh.2 (by simp))])
 ·simp only [if_neg h1]
  exact hbad (by unfold mulG; rw [if_neg (fun hh => h1 hh.1)])
theorem spec_short_l0 (L : List Int) (hl : L.length ≤ 100000) (h9 : ∀ x ∈ L, 0 ≤ x ∧ x < E9) : ∀ n : Nat, n ≤ L.length → valI E9 (L.take n) = valI E9 L →
  ∃ L' : List Int, Ev (fun k => spec_l06Short.l0 k L (n : Int)) L' ∧ L'.length ≤ L.length ∧ (∀ x ∈ L', 0 ≤ x ∧ x < E9) ∧ valI E9 L' = valI E9 L := by
 have hr : ∀ (k n : Nat), spec_l06Short.l0 (k + 1) L (n : Int) = if (n : Int) > 1 then (if 0 ≤ (wrap64 ((n : Int) - 1)) then (if (wrap64 ((n : Int) - 1)) < (L.length : Int) then (if (rd L (wrap64 ((n : Int) - 1))) = 0 then (spec_l06Short.l0 k L (wrap64 ((n : Int) - 1))) else (if 0 ≤ (n : Int) then (if (n : Int) ≤ (L.length : Int) then (some (L.take (n : Int).toNat)) else (none)) else (none))) else (none)) else (none)) else (if 0 ≤ (n : Int) then (if (n : Int) ≤ (L.length : Int) then (some (L.take (n : Int).toNat)) else (none)) else (none)) := fun _ _ => rfl
 intro n
 induction n with
 | zero =>
  intro hn hv
  refine ⟨L.take 0, ?_, by simp, by simp, hv⟩
  exact Ev.step (f := fun _ => some (L.take 0)) (fun k => by rw [hr, if_neg (by omega), if_pos (by omega), if_pos (by omega)]; rfl) (Ev.now _)
 | succ n ih =>
  intro hn hv
  have hend : (L.take (n + 1)).length ≤ L.length ∧ (∀ x ∈ L.take (n + 1), 0 ≤ x ∧ x < E9) ∧ valI E9 (L.take (n + 1)) = valI E9 L :=
   ⟨by rw [List.length_take]; omega, fun x hx => h9 x (List.mem_of_mem_take hx), hv⟩
  have f1 : (0 : Int) ≤ ((n + 1 : Nat) : Int) := by omega
  have f2 : ((n + 1 : Nat) : Int) ≤ (L.length : Int) := by omega
  by_cases h1 : 1 < n + 1
  ·have e : wrap64 (((n + 1 : Nat) : Int) - 1) = (n : Int) := by rw [w64 (by omega) (by omega)]; omega
   have f3 : ((n + 1 : Nat) : Int) > 1 := by omega
   have f4 : (0 : Int) ≤ (n : Int) := by omega
   have f5 : (n : Int) < (L.length : Int) := by omega
   by_cases h0 : L.getD n 0 = 0
   ·have hv2 : valI E9 (L.take n) = valI E9 L := by
     rw [← hv, valI_take_succ E9 L n (by omega), h0, Int.mul_zero, Int.add_zero]
    obtain ⟨L', h2, h3⟩ := ih (by omega) hv2
    exact ⟨L', Ev.step (fun k => by rw [hr, if_pos f3, e, if_pos f4, if_pos f5, rd_nat, if_pos h0]) h2, h3⟩
   ·exact ⟨_, Ev.step (f := fun _ => some (L.take (n + 1))) (fun k => by rw [hr, if_pos f3, e, if_pos f4, if_pos f5, rd_nat, if_neg h0, if_pos f1, if_pos f2]; rfl) (Ev.now _), hend⟩
  ·exact ⟨_, Ev.step (f := fun _ => some (L.take (n + 1))) (fun k => by rw [hr, if_neg (by omega), if_pos f1, if_pos f2]; rfl) (Ev.now _), hend⟩
theorem spec_short (L : List Int) (hl : L.length ≤ 100000) (h9 : ∀ x ∈ L, 0 ≤ x ∧ x < E9) :
  ∃ L' : List Int, Ev (fun k => spec_l06Short.f k L) L' ∧ L'.length ≤ L.length ∧ (∀ x ∈ L', 0 ≤ x ∧ x < E9) ∧ valI E9 L' = valI E9 L :=
 spec_short_l0 L hl h9 L.length (Nat.le_refl _) (by rw [List.take_of_length_le (Nat.le_refl _)])
theorem spec_mulShort (A C : List Int) (hA : ∀ x ∈ A, 0 ≤ x ∧ x < E9) (hC : ∀ x ∈ C, 0 ≤ x ∧ x < E9) (hlA : A.length ≤ 5000) (hlC : C.length ≤ 5000) :
  ∃ L L' : List Int, Ev (fun n => spec_l06Mul.f n A C) L ∧ Ev (fun k => spec_l06Short.f k L) L' ∧ L'.length ≤ A.length + C.length + 1 ∧ (∀ x ∈ L', 0 ≤ x ∧ x < E9) ∧ valI E9 L' = valI E9 A * valI E9 C := by
 obtain ⟨L, h1, h2, h3, h4⟩ := spec_mul A C hA hC hlA hlC
 obtain ⟨L', g1, g2, g3, g4⟩ := spec_short L (by omega) h3
 exact ⟨L, L', h1, g1, by omega, g3, by rw [g4, h4]⟩
theorem power_odd (k e : Nat) (A C : List Int) (h : e % 2 = 1) (h2 : e < 9223372036854775808) : spec_l06Power.l0 (k + 1) (e : Int) A C = (spec_l06Mul.f k A C).bind fun t132 => ((spec_l06Short.f k t132).bind fun t135 => ((spec_l06Mul.f k C C).bind fun t138 => ((spec_l06Short.f k t138).bind fun t141 => (spec_l06Power.l0 k ((e / 2 : Nat) : Int) t135 t141)))) := by
 simp only [spec_l06Power.l0]
 rw [if_pos (by omega), tmodN (by omega), if_pos (by omega), tdivN (by omega), w64 (by omega) (by omega)]
 rfl
theorem power_even (k e : Nat) (A C : List Int) (h : ¬ e % 2 = 1) (h0 : e ≠ 0) (h2 : e < 9223372036854775808) : spec_l06Power.l0 (k + 1) (e : Int) A C = (spec_l06Mul.f k C C).bind fun t144 => ((spec_l06Short.f k t144).bind fun t147 => (spec_l06Power.l0 k ((e / 2 : Nat) : Int) A t147)) := by
 simp only [spec_l06Power.l0]
 rw [if_pos (by omega), tmodN (by omega), if_neg (by omega), tdivN (by omega), w64 (by omega) (by omega)]
 rfl
theorem power_end (k : Nat) (A C : List Int) : spec_l06Power.l0 (k + 1) ((0 : Nat) : Int) A C = some A := by
 simp only [spec_l06Power.l0]
 rw [if_neg (by omega)]
theorem sq_pow (v : Int) (q : Nat) : (v * v) ^ q = v ^ (2 * q) := by
 have h2 : v ^ 2 = v * v := by simp [Int.pow_succ]
 rw [Int.pow_mul, h2]
theorem power_room (m d : Nat) (hm : (m + 1) * 2 ^ (d + 1) ≤ 4096) : (2 * m + 1 + 1) * 2 ^ d ≤ 4096 ∧ 2 * m + 2 ≤ 4096 ∧ 2 ^ d ≤ 4096 := by
 have hm1 : (m + 1) * 2 ^ (d + 1) = (2 * m + 1 + 1) * 2 ^ d := by rw [Nat.pow_succ, show 2 * m + 1 + 1 = (m + 1) * 2 by omega, Nat.mul_assoc, Nat.mul_comm 2]
 rw [hm1] at hm
 have hp : 1 ≤ 2 ^ d := Nat.one_le_two_pow
 have h1 := Nat.mul_le_mul_left (2 * m + 1 + 1) hp
 have h2 := Nat.mul_le_mul_right (2 ^ d) (show 1 ≤ 2 * m + 1 + 1 by omega)
 rw [Nat.mul_one] at h1
 rw [Nat.one_mul] at h2
 exact ⟨hm, Nat.le_trans h1 hm, Nat.le_trans h2 hm⟩
theorem half_lt (e d : Nat) (h : e < 2 ^ (d + 1)) : e / 2 < 2 ^ d := by
 rw [Nat.pow_succ] at h
 omega
theorem spec_power_l0 : ∀ (d e m : Nat) (A C : List Int), e < 2 ^ d → (m + 1) * 2 ^ d ≤ 4096 → A.length ≤ m → C.length ≤ m → m ≤ 4096 → e ≤ 4096 → (∀ x ∈ A, 0 ≤ x ∧ x < E9) → (∀ x ∈ C, 0 ≤ x ∧ x < E9) →
  ∃ L : List Int, Ev (fun k => spec_l06Power.l0 k (e : Int) A C) L ∧ L.length ≤ 4096 ∧ (∀ x ∈ L, 0 ≤ x ∧ x < E9) ∧ valI E9 L = valI E9 A * valI E9 C ^ e := by
 intro d
 induction d with
 | zero =>
  intro e m A C he _ hlA hlC hm4 _ hA hC
  obtain rfl : e = 0 := by rw [Nat.pow_zero] at he; omega
  exact ⟨A, Ev.step (f := fun _ => some A) (fun k => power_end k A C) (Ev.now _), Nat.le_trans hlA hm4, hA, by rw [Int.pow_zero, Int.mul_one]⟩
 | succ d ih =>
  intro e m A C he hm hlA hlC hm4 he4 hA hC
  by_cases h0 : e = 0
  ·subst h0
   exact ⟨A, Ev.step (f := fun _ => some A) (fun k => power_end k A C) (Ev.now _), Nat.le_trans hlA hm4, hA, by rw [Int.pow_zero, Int.mul_one]⟩
  ·obtain ⟨r1, r2, _⟩ := power_room m d hm
   have he2 := half_lt e d he
   clear he hm
   have e64 : e < 9223372036854775808 := by omega
   have l1 : A.length ≤ 5000 := by omega
   have l2 : C.length ≤ 5000 := by omega
   obtain ⟨S, S', s1, s2, s3, s4, s5⟩ := spec_mulShort C C hC hC l2 l2
   have ls : S'.length ≤ 2 * m + 1 := by omega
   have l5 : 2 * m + 1 ≤ 4096 := by omega
   have l6 : e / 2 ≤ 4096 := by omega
   by_cases h1 : e % 2 = 1
   ·obtain ⟨T, T', t1, t2, t3, t4, t5⟩ := spec_mulShort A C hA hC l1 l2
    obtain ⟨L, g1, g2, g3, g4⟩ := ih (e / 2) (2 * m + 1) T' S' he2 r1 (by omega) ls l5 l6 t4 s4
    refine ⟨L, Ev.step (fun k => power_odd k e A C h1 e64) (Ev.bind t1 (Ev.bind t2 (Ev.bind s1 (Ev.bind s2 g1)))), g2, g3, ?_⟩
    have hh : e = 2 * (e / 2) + 1 := by omega
    rw [g4, s5, t5, sq_pow]
    have e1 : valI E9 C ^ e = valI E9 C ^ (2 * (e / 2)) * valI E9 C := by
     conv => lhs; rw [hh]
     rw [Int.pow_succ]
    rw [e1, Int.mul_assoc, Int.mul_comm (valI E9 C ^ _)]
   ·obtain ⟨L, g1, g2, g3, g4⟩ := ih (e / 2) (2 * m + 1) A S' he2 r1 (by omega) ls l5 l6 hA s4
    refine ⟨L, Ev.step (fun k => power_even k e A C h1 h0 e64) (Ev.bind s1 (Ev.bind s2 g1)), g2, g3, ?_⟩
    rw [g4, s5, sq_pow, show 2 * (e / 2) = e by omega]
theorem spec_power (b e : Nat) (hb : b ≤ 10) (he : e ≤ 1100) : ∃ L : List Int, Ev (fun k => spec_l06Power.f k (b : Int) (e : Int)) L ∧ L.length ≤ 4096 ∧ (∀ x ∈ L, 0 ≤ x ∧ x < E9) ∧ valI E9 L = ((b ^ e : Nat) : Int) := by
 have hE : E9 = 1000000000 := rfl
 obtain ⟨L, h1, h2, h3, h4⟩ := spec_power_l0 11 e 1 [1] [(b : Int)] (Nat.lt_of_le_of_lt he (by decide)) (by decide) (by simp) (by simp) (by omega) (by omega) (by simp [hE]) (by simp [hE]; omega)
 refine ⟨L, h1, h2, h3, ?_⟩
 rw [h4]
 simp [valI]
def powG (b n : Int) : ByteArray × Bool := if (2 ≤ b ∧ b ≤ 10) ∧ (0 ≤ n ∧ n ≤ 1100) then fitsT (b.toNat ^ n.toNat) else (⟨#[]⟩, false)
theorem spec_greatPower (b n : Int) : Ev (fun k => spec_GreatPower.f k b n) (powG b n) := by
 have hj : ∀ (k : Nat) (z : Bool), spec_GreatPower.j0 (k + 1) b n z = if z = true then (some ((⟨#[]⟩ : ByteArray), false)) else ((spec_l06Power.f k b n).bind fun t152 => ((spec_l06Text.f k t152).bind fun t155 => ((spec_l06Fits.f t155).bind fun bt156 => (some (bt156.1, bt156.2))))) := fun _ _ => rfl
 have hbad : powG b n = (⟨#[]⟩, false) → Ev (fun k => spec_GreatPower.j0 k b n true) (powG b n) := by
  intro h; rw [h]
  exact Ev.step (f := fun _ => some (⟨#[]⟩, false)) (fun k => by rw [hj, if_pos rfl]) (Ev.now _)
 unfold spec_GreatPower.f
 rw [spec_in]
 simp only [Option.bind_some, spec_in]
 by_cases h1 : 2 ≤ b ∧ b ≤ 10
 ·rw [decide_eq_true h1]
  simp only [if_true]
  by_cases h2 : 0 ≤ n ∧ n ≤ 1100
  ·rw [decide_eq_true h2]
   have e : powG b n = fitsT (b.toNat ^ n.toNat) := by unfold powG; rw [if_pos ⟨h1, h2⟩]
   obtain ⟨L, l1, l2, l3, l4⟩ := spec_power b.toNat n.toNat (by omega) (by omega)
   rw [show ((b.toNat : Nat) : Int) = b by omega, show ((n.toNat : Nat) : Int) = n by omega] at l1
   have ht := spec_text L (by omega) l3
   rw [l4, Int.toNat_natCast] at ht
   rw [e]
   refine Ev.step (fun k => by rw [hj, if_neg (by simp)]) (Ev.bind l1 (Ev.bind ht ?_))
   rw [spec_fits]
   exact Ev.now _
  ·rw [decide_eq_false h2]
   exact hbad (by unfold powG; rw [if_neg (fun hh => h2 hh.2)])
 ·rw [decide_eq_false h1]
  exact hbad (by unfold powG; rw [if_neg (fun hh => h1 hh.1)])
theorem spec_figure10 (x : Nat) (h : x < 10) : spec_l01Figure.f (x : Int) = some (48 + (x : Int)) := by
 unfold spec_l01Figure.f
 rw [if_pos (by omega), w64 (by omega) (by omega), show (48 + (x : Int)) % 256 = 48 + x by omega]
theorem spec_dec_l0 (below b : Bool) : ∀ (d m : Nat) (s : ByteArray), m < 10 ^ d → m ≤ 9223372036854775808 → s.size + d ≤ 1000 →
    Ev (fun k => spec_Decimal.l0 k (if b then -(m : Int) else m) below s) (sgn below (dgs m s)) := by
  have hz : ∀ s : ByteArray, s.size ≤ 1000 → Ev (fun k => spec_Decimal.l0 k (if b then -((0 : Nat) : Int) else ((0 : Nat) : Int)) below s) (sgn below (dgs 0 s)) := by
    intro s hs
    rw [dgs_zero, show (if b then -((0 : Nat) : Int) else ((0 : Nat) : Int)) = 0 by cases b <;> rfl]
    refine Ev.step (f := fun _ => some (sgn below s)) (fun k => ?_) (Ev.now _)
    simp only [spec_Decimal.l0, if_true]
    unfold sgn
    cases below
    · rfl
    · simp only [if_true]; rw [if_pos (by omega)]
  intro d
  induction d with
  | zero => intro m s h hm hs; obtain rfl : m = 0 := by omega
            exact hz s (by omega)
  | succ d ih =>
    intro m s h hm hs
    by_cases h0 : m = 0
    · subst h0; exact hz s (by omega)
    · rw [dgs_pos m s h0]
      have h' := ih (m / 10) (strOfNums [48 + ((m % 10 : Nat) : Int)] ++ s) (by rw [Nat.pow_succ] at h; omega) (by omega) (by rw [ByteArray.size_append, str_size]; simp; omega)
      refine Ev.step (fun k => ?_) h'
      simp only [spec_Decimal.l0]
      rw [tdiv10 b m, tmod10 b m, if_neg (by cases b <;> simp <;> omega)]
      have hw : wrap64 (if b then -((m / 10 : Nat) : Int) else ((m / 10 : Nat) : Int)) = if b then -((m / 10 : Nat) : Int) else ((m / 10 : Nat) : Int) := by
        apply w64 <;> (cases b <;> simp <;> omega)
      rw [hw]
      by_cases hd : b = true ∧ m % 10 ≠ 0
      · obtain ⟨rfl, hd⟩ := hd
        simp only [if_true]
        rw [if_pos (by omega), w64 (by omega) (by omega), Int.neg_neg, spec_figure10 _ (by omega)]
        simp only [Option.bind_some]
        rw [if_pos (by rw [str_size]; simp; omega)]
      · have e : (if b then -((m % 10 : Nat) : Int) else ((m % 10 : Nat) : Int)) = ((m % 10 : Nat) : Int) := by
          cases b
          · rfl
          · simp only [if_true]; have : m % 10 = 0 := by simp at hd; exact hd
            rw [this]; rfl
        rw [e, if_neg (by omega), spec_figure10 _ (by omega)]
        simp only [Option.bind_some]
        rw [if_pos (by rw [str_size]; simp; omega)]
theorem spec_dec (n : Int) (h0 : -9223372036854775808 ≤ n) (h1 : n < 9223372036854775808) : Ev (fun k => spec_Decimal.f k n) (decT n) := by
 unfold spec_Decimal.f
 by_cases h : n = 0
 ·subst h
  simp only [if_true]
  have e : decT 0 = ⟨#[48]⟩ := rfl
  rw [e]
  exact Ev.now _
 ·simp only [if_neg h]
  rw [decT_sgn n h]
  have h' := spec_dec_l0 (decide (n < 0)) (decide (n < 0)) 20 n.natAbs ⟨#[]⟩ (Nat.lt_of_le_of_lt (show n.natAbs ≤ 9223372036854775808 by omega) (by decide)) (by omega) (by simp [ByteArray.size])
  rw [← signed_of n] at h'
  exact h'
theorem exact_few {u M F g n l : Nat} (hu : u % 10 ≠ 0) (hM : M < 9007199254740992) (hFg : F = 0 ∨ g = 0) (hnl : n = 0 ∨ l = 0) (hn : n ≤ 1074) (hl : l ≤ 971) (h : u * 10 ^ F * 2 ^ n = M * 2 ^ l * 10 ^ g) :
  g ≤ n ∧ ∃ K : Nat, K ≤ 790 ∧ u < 10 ^ K := by
 have hq : ∀ m : Nat, 0 < 2 ^ m := fun m => Nat.pow_pos (by omega)
 have hp : ∀ m : Nat, 0 < 10 ^ m := fun m => Nat.pow_pos (by omega)
 have e10 : ∀ m : Nat, 10 ^ m = 2 ^ m * 5 ^ m := fun m => by rw [← Nat.mul_pow]
 have hg : g ≤ n := by
  rcases Nat.lt_or_ge n g with hc | hc
  ·exfalso
   obtain ⟨k, rfl⟩ : ∃ k, g = n + (k + 1) := ⟨g - n - 1, by omega⟩
   obtain rfl : F = 0 := by omega
   rw [Nat.pow_zero, Nat.mul_one, Nat.pow_add, e10 n] at h
   have h2 : u * 2 ^ n = M * 2 ^ l * 5 ^ n * 10 ^ k * 10 * 2 ^ n := by
    rw [h, Nat.pow_succ]; ac_rfl
   have h3 := Nat.eq_of_mul_eq_mul_right (hq n) h2
   omega
  ·exact hc
 refine ⟨hg, 16 + (l / 3 + 1) + 7 * (g / 10 + 1), by omega, ?_⟩
 have h1 : u * 10 ^ F ≤ M * 2 ^ l * 5 ^ g := by
  refine Nat.le_of_mul_le_mul_right ?_ (hq n)
  rw [h, e10 g]
  have h2 : 2 ^ g ≤ 2 ^ n := Nat.pow_le_pow_right (by omega) hg
  calc M * 2 ^ l * (2 ^ g * 5 ^ g) = M * 2 ^ l * 5 ^ g * 2 ^ g := by ac_rfl
   _ ≤ M * 2 ^ l * 5 ^ g * 2 ^ n := Nat.mul_le_mul_left _ h2
 have h2 : u ≤ u * 10 ^ F := Nat.le_mul_of_pos_right _ (hp F)
 have h3 := SF.room10 (SF.room10 (show M < 10 ^ 16 by omega) (SF.two_up3 l)) (SF.five_up g)
 omega
theorem exact_high {u M : Nat} {e f : Int} (hu : u % 10 ≠ 0) (hM : M < 9007199254740992) (he2 : e ≤ 971) (h : (u * 10 ^ f.toNat) * 2 ^ (-e).toNat = (M * 2 ^ e.toNat) * 10 ^ (-f).toNat) : f ≤ 400 := by
 rcases Int.lt_or_le 400 f with hc | hc
 ·exfalso
  have e1 : (-f).toNat = 0 := by omega
  rw [e1, Nat.pow_zero, Nat.mul_one] at h
  have h1 : 10 ^ f.toNat ≤ M * 2 ^ e.toNat := by
   rw [← h]
   exact Nat.le_trans (Nat.le_mul_of_pos_left _ (by omega)) (Nat.le_mul_of_pos_right _ (Nat.pow_pos (by omega)))
  have h2 := SF.room10 (show M < 10 ^ 16 by omega) (SF.two_up3 e.toNat)
  have h3 := SF.pow_gap (Nat.le_of_lt (Nat.lt_of_le_of_lt h1 h2))
  omega
 ·exact hc
theorem size_of_lt {v K : Nat} (h : v < 10 ^ K) (hK : K ≤ 799) : (decN v).size ≤ 800 := by
 have h2 : v < 10 ^ (K + 1) := Nat.lt_of_lt_of_le h (Nat.pow_le_pow_right (by omega) (by omega))
 have := (decN_size v (K + 1) (by omega)).2 h2
 omega
theorem fits_ok (v : Nat) (h : (decN v).size ≤ 800) : fitsT v = (decN v, true) := by unfold fitsT; rw [if_pos h]
theorem fig_ok (v : Nat) (h : (decN v).size ≤ 800) : figOk (decN v) = true := by rw [figOk_decN, decide_eq_true h]
theorem mulG_dec (A B : Nat) (ha : (decN A).size ≤ 800) (hb : (decN B).size ≤ 800) (h : (decN (A * B)).size ≤ 800) : mulG (decN A) (decN B) = (decN (A * B), true) := by
 unfold mulG
 rw [if_pos ⟨fig_ok A ha, fig_ok B hb⟩, valD_decN, valD_decN, fits_ok _ h]
theorem powG_dec (b n : Nat) (hb1 : 2 ≤ b) (hb2 : b ≤ 10) (hn : n ≤ 1100) (h : (decN (b ^ n)).size ≤ 800) : powG (b : Int) (n : Int) = (decN (b ^ n), true) := by
 unfold powG
 rw [if_pos ⟨⟨by omega, by omega⟩, by omega, by omega⟩, Int.toNat_natCast, Int.toNat_natCast, fits_ok _ h]
theorem decN_end (v : Nat) (h : v ≠ 0) : bt (decN v) (((decN v).size - 1 : Nat) : Int) = 48 + ((v % 10 : Nat) : Int) := by
 have h1 := decN_pos v
 rw [bt_list (decN v) ((decN v).size - 1) (by omega)]
 have hd : (decN v).data.toList = dgL (v / 10) ++ [UInt8.ofNat (48 + v % 10)] := by rw [decN_data, if_neg h, dgL_pos v h]
 have hl : (dgL (v / 10)).length = (decN v).size - 1 := by
  have := congrArg List.length hd
  rw [List.length_append, size_data] at this
  simp at this
  omega
 have he : (decN v).data.toList[(decN v).size - 1]? = some (UInt8.ofNat (48 + v % 10)) := by
  rw [hd, List.getElem?_append_right (by omega), hl, Nat.sub_self]; rfl
 rw [List.getElem?_eq_getElem (by rw [size_data]; omega)] at he
 rw [Option.some.inj he]
 have : (UInt8.ofNat (48 + v % 10)).toNat = 48 + v % 10 := by simp; omega
 rw [this]; omega
theorem law_eq2 (k : Nat) (x11 x12 : ByteArray) (p0 : Int) (p1 : Bool) (p2 p3 : Int) : laws_FnExact.j2 (k + 1) x11 x12 p0 p1 p2 p3 = if p3 ≥ 0 then ((spec_GreatPower.f k 2 p3).bind fun bt318 => ((spec_GreatMul.f k x12 bt318.1).bind fun bt320 => (some (x11.toList == bt320.1.toList)))) else ((spec_GreatPower.f k 2 (wrap64 (-p3))).bind fun bt322 => ((spec_GreatMul.f k x11 bt322.1).bind fun bt324 => (some (bt324.1.toList == x12.toList)))) := rfl
theorem law_eq1 (k : Nat) (x6 : ByteArray) (x7 : Int) (x89 : Bool) (p0 : Int) (p1 : Bool) (p2 p3 : Int) : laws_FnExact.j1 (k + 1) x6 x7 x89 p0 p1 p2 p3 = if x89 = true then (if x7 ≤ 400 then (some (decide (x7 ≥ (-1074)))) else (some false)) else ((spec_Decimal.f k (wrap64 (p2))).bind fun t309 => (if x7 < 0 then ((spec_GreatPower.f k 10 (wrap64 (-x7))).bind fun bt310 => ((spec_GreatMul.f k t309 bt310.1).bind fun bt312 => (laws_FnExact.j2 k x6 bt312.1 p0 p1 p2 p3))) else ((spec_GreatPower.f k 10 x7).bind fun bt314 => ((spec_GreatMul.f k x6 bt314.1).bind fun bt316 => (laws_FnExact.j2 k bt316.1 t309 p0 p1 p2 p3))))) := rfl
theorem law_eq0 (k : Nat) (x6 : ByteArray) (x7 : Int) (x77 : Bool) (p0 : Int) (p1 : Bool) (p2 p3 : Int) : laws_FnExact.j0 (k + 1) x6 x7 x77 p0 p1 p2 p3 = if x77 = true then (some false) else (if p3 < (-60) then (laws_FnExact.j1 k x6 x7 true p0 p1 p2 p3) else (if p3 > 60 then (laws_FnExact.j1 k x6 x7 true p0 p1 p2 p3) else (laws_FnExact.j1 k x6 x7 (decide (x7 > 1000)) p0 p1 p2 p3))) := rfl
theorem far_of {s : ByteArray} (h : s.size ≤ 800) : s.size ≤ 140737488351232 := by omega
theorem law_two (A B V n l : Nat) (p0 : Int) (p1 : Bool) (p2 e : Int) (he : e = (l : Int) - n) (hnl : n = 0 ∨ l = 0) (hn : n ≤ 60) (hl : l ≤ 60) (hA : A * 2 ^ n = V) (hB : B * 2 ^ l = V) (hV : V ≠ 0) {K : Nat} (hK : K ≤ 790) (hVK : V < 10 ^ K) :
  Ev (fun k => laws_FnExact.j2 k (decN A) (decN B) p0 p1 p2 e) true := by
 have hq : ∀ m : Nat, 0 < 2 ^ m := fun m => Nat.pow_pos (by omega)
 have hsm : ∀ v, v ≤ V → (decN v).size ≤ 800 := fun v hv => size_of_lt (Nat.lt_of_le_of_lt hv hVK) (by omega)
 have hA0 : A ≠ 0 := fun h => hV (by rw [← hA, h, Nat.zero_mul])
 have hB0 : B ≠ 0 := fun h => hV (by rw [← hB, h, Nat.zero_mul])
 have a1 : A ≤ V := by rw [← hA]; exact Nat.le_mul_of_pos_right _ (hq n)
 have b1 : B ≤ V := by rw [← hB]; exact Nat.le_mul_of_pos_right _ (hq l)
 have a2 : 2 ^ n ≤ V := by rw [← hA]; exact Nat.le_mul_of_pos_left _ (by omega)
 have b2 : 2 ^ l ≤ V := by rw [← hB]; exact Nat.le_mul_of_pos_left _ (by omega)
 rcases Int.lt_or_le e 0 with h | h
 ·obtain rfl : l = 0 := by omega
  rw [Nat.pow_zero, Nat.mul_one] at hB
  have h1 := spec_greatPower ((2 : Nat) : Int) (n : Int)
  rw [powG_dec 2 n (by omega) (by omega) (by omega) (hsm _ a2), show ((2 : Nat) : Int) = 2 from rfl] at h1
  have h2 := spec_greatMul (decN A) (decN (2 ^ n)) (far_of (hsm _ a1)) (far_of (hsm _ a2))
  rw [mulG_dec A (2 ^ n) (hsm _ a1) (hsm _ a2) (by rw [hA]; exact hsm _ (Nat.le_refl _)), hA] at h2
  have hw : wrap64 (-e) = (n : Int) := by rw [w64 (by omega) (by omega)]; omega
  refine Ev.step (fun k => law_eq2 k ..) (ev_else (by omega) ?_)
  rw [hw]
  refine Ev.bind h1 (Ev.bind h2 ?_)
  rw [hB, beq_self_eq_true]
  exact Ev.now _
 ·obtain rfl : n = 0 := by omega
  rw [Nat.pow_zero, Nat.mul_one] at hA
  obtain rfl : e = (l : Int) := by omega
  have h1 := spec_greatPower ((2 : Nat) : Int) (l : Int)
  rw [powG_dec 2 l (by omega) (by omega) (by omega) (hsm _ b2), show ((2 : Nat) : Int) = 2 from rfl] at h1
  have h2 := spec_greatMul (decN B) (decN (2 ^ l)) (far_of (hsm _ b1)) (far_of (hsm _ b2))
  rw [mulG_dec B (2 ^ l) (hsm _ b1) (hsm _ b2) (by rw [hB]; exact hsm _ (Nat.le_refl _)), hB] at h2
  refine Ev.step (fun k => law_eq2 k ..) (ev_if (by omega) (Ev.bind h1 (Ev.bind h2 ?_)))
  rw [hA, beq_self_eq_true]
  exact Ev.now _
theorem law_one {u M F g n l : Nat} (p0 : Int) (p1 : Bool) {e f : Int} (hu : u % 10 ≠ 0) (hM0 : M ≠ 0) (hM : M < 9007199254740992) (hf : f = (F : Int) - g) (he : e = (l : Int) - n) (hFg : F = 0 ∨ g = 0) (hnl : n = 0 ∨ l = 0) (hn : n ≤ 60) (hl : l ≤ 60) (hF : F ≤ 400)
  (h : u * 10 ^ F * 2 ^ n = M * 2 ^ l * 10 ^ g) : Ev (fun k => laws_FnExact.j1 k (decN u) f false p0 p1 (M : Int) e) true := by
 have hq : ∀ m : Nat, 0 < 2 ^ m := fun m => Nat.pow_pos (by omega)
 have hp : ∀ m : Nat, 0 < 10 ^ m := fun m => Nat.pow_pos (by omega)
 obtain ⟨hg, _⟩ := exact_few hu hM hFg hnl (by omega) (by omega) h
 obtain ⟨V, hV⟩ : ∃ V, V = M * 2 ^ l * 10 ^ g := ⟨_, rfl⟩
 have hVK : V < 10 ^ (16 + (l / 3 + 1) + g) := by
  rw [hV]
  exact SF.room10 (SF.room10 (show M < 10 ^ 16 by omega) (SF.two_up3 l)) (Nat.le_refl _)
 have hV0 : V ≠ 0 := by
  rw [hV]
  exact Nat.mul_ne_zero (Nat.mul_ne_zero hM0 (Nat.ne_of_gt (hq l))) (Nat.ne_of_gt (hp g))
 have hsm : ∀ v, v ≤ V → (decN v).size ≤ 800 := fun v hv => size_of_lt (Nat.lt_of_le_of_lt hv hVK) (by omega)
 have hu0 : u ≠ 0 := fun h => by subst h; exact hu rfl
 have hA : u * 10 ^ F * 2 ^ n = V := by rw [hV]; exact h
 have hB : M * 10 ^ g * 2 ^ l = V := by rw [hV]; ac_rfl
 have a0 : u * 10 ^ F ≤ V := by rw [← hA]; exact Nat.le_mul_of_pos_right _ (hq n)
 have b0 : M * 10 ^ g ≤ V := by rw [← hB]; exact Nat.le_mul_of_pos_right _ (hq l)
 have a1 : u ≤ V := Nat.le_trans (Nat.le_mul_of_pos_right _ (hp F)) a0
 have b1 : M ≤ V := Nat.le_trans (Nat.le_mul_of_pos_right _ (hp g)) b0
 have a2 : 10 ^ F ≤ V := Nat.le_trans (Nat.le_mul_of_pos_left _ (by omega)) a0
 have b2 : 10 ^ g ≤ V := Nat.le_trans (Nat.le_mul_of_pos_left _ (by omega)) b0
 have hdec := spec_dec (M : Int) (by omega) (by omega)
 have hdm : decT (M : Int) = decN M := rfl
 rw [hdm] at hdec
 have hwM : wrap64 (M : Int) = (M : Int) := w64 (by omega) (by omega)
 have htwo := law_two (u * 10 ^ F) (M * 10 ^ g) V n l p0 p1 (M : Int) e he hnl hn hl hA hB hV0 (K := 16 + (l / 3 + 1) + g) (by omega) hVK
 refine Ev.step (fun k => law_eq1 k ..) (ev_else (by decide) ?_)
 rw [hwM]
 refine Ev.bind hdec ?_
 rcases Int.lt_or_le f 0 with hc | hc
 ·obtain rfl : F = 0 := by omega
  rw [Nat.pow_zero, Nat.mul_one] at htwo
  have h1 := spec_greatPower ((10 : Nat) : Int) (g : Int)
  rw [powG_dec 10 g (by omega) (by omega) (by omega) (hsm _ b2), show ((10 : Nat) : Int) = 10 from rfl] at h1
  have h2 := spec_greatMul (decN M) (decN (10 ^ g)) (far_of (hsm _ b1)) (far_of (hsm _ b2))
  rw [mulG_dec M (10 ^ g) (hsm _ b1) (hsm _ b2) (hsm _ b0)] at h2
  have hw : wrap64 (-f) = (g : Int) := by rw [w64 (by omega) (by omega)]; omega
  refine ev_if hc ?_
  rw [hw]
  exact Ev.bind h1 (Ev.bind h2 htwo)
 ·obtain rfl : g = 0 := by omega
  rw [Nat.pow_zero, Nat.mul_one] at htwo
  obtain rfl : f = (F : Int) := by omega
  have h1 := spec_greatPower ((10 : Nat) : Int) (F : Int)
  rw [powG_dec 10 F (by omega) (by omega) (by omega) (hsm _ a2), show ((10 : Nat) : Int) = 10 from rfl] at h1
  have h2 := spec_greatMul (decN u) (decN (10 ^ F)) (far_of (hsm _ a1)) (far_of (hsm _ a2))
  rw [mulG_dec u (10 ^ F) (hsm _ a1) (hsm _ a2) (hsm _ a0)] at h2
  exact ev_else (by omega) (Ev.bind h1 (Ev.bind h2 htwo))
theorem law_all {u M : Nat} (p0 : Int) (p1 : Bool) {e f : Int} (hu : u % 10 ≠ 0) (hM0 : M ≠ 0) (hM : M < 9007199254740992) (hf1 : -1074 ≤ f) (hf2 : f ≤ 400) (h : (u * 10 ^ f.toNat) * 2 ^ (-e).toNat = (M * 2 ^ e.toNat) * 10 ^ (-f).toNat) :
  Ev (fun k => laws_FnExact.j0 k (decN u) f false p0 p1 (M : Int) e) true := by
 have hfar : Ev (fun k => laws_FnExact.j1 k (decN u) f true p0 p1 (M : Int) e) true := by
  refine Ev.step (fun k => law_eq1 k ..) (ev_if rfl (ev_if hf2 ?_))
  rw [decide_eq_true (show f ≥ -1074 from hf1)]
  exact Ev.now _
 refine Ev.step (fun k => law_eq0 k ..) (ev_else (by decide) ?_)
 by_cases h1 : e < -60
 ·exact ev_if h1 hfar
 ·refine ev_else h1 ?_
  by_cases h2 : e > 60
  ·exact ev_if h2 hfar
  ·refine ev_else h2 ?_
   rw [decide_eq_false (show ¬ f > 1000 by omega)]
   exact law_one p0 p1 hu hM0 hM (by omega) (by omega) (by omega) (by omega) (by omega) (by omega) (by omega) h
theorem FnExact : laws_FnExact.Pure := by
 intro l hl1 hl2 _
 unfold laws_FnExact.f laws_big.f
 simp only [Option.bind_some]
 by_cases hb : (l.length : Int) > 1048576
 ·exact ⟨0, by rw [if_pos (by simpa using hb)]⟩
 obtain ⟨x, b, c, hd, hx, _, _⟩ := spec_numbers l (by omega)
 have hmod : Int.tmod (x : Int) 9223372036854775808 = ((x % 9223372036854775808 : Nat) : Int) := by rw [tmodN (by omega)]; omega
 refine Ev.rounds (ev_else (by simpa using hb) (Ev.bind hd ?_))
 simp only [hmod]
 have hbad : ∀ {d : Ieee.Datum}, Ieee.double.read x = d → (partsR d).1 ≠ 4 → Ev (fun k => (impl_Exact.f k (x : Int)).bind fun bt299 => ((spec_PartsOfNumber.f k (x : Int)).bind fun bt301 => (if bt301.1 = 4 then ((impl_Exact.f k ((x % 9223372036854775808 : Nat) : Int)).bind fun bt306 => (if bt306.1.toList = bt299.1.toList then (if bt306.2 = bt299.2 then (if (bt299.1.size : Int) = 0 then (laws_FnExact.j0 k bt299.1 bt299.2 true bt301.1 bt301.2.1 bt301.2.2.1 bt301.2.2.2) else (if 0 ≤ (wrap64 ((bt299.1.size : Int) - 1)) then (if (wrap64 ((bt299.1.size : Int) - 1)) < (bt299.1.size : Int) then (if (bt bt299.1 (wrap64 ((bt299.1.size : Int) - 1))) = 48 then (laws_FnExact.j0 k bt299.1 bt299.2 true bt301.1 bt301.2.1 bt301.2.2.1 bt301.2.2.2) else ((spec_FiguresOk.f k bt299.1).bind fun t308 => (laws_FnExact.j0 k bt299.1 bt299.2 (!t308) bt301.1 bt301.2.1 bt301.2.2.1 bt301.2.2.2))) else (none)) else (none))) else (laws_FnExact.j0 k bt299.1 bt299.2 true bt301.1 bt301.2.1 bt301.2.2.1 bt301.2.2.2)) else (laws_FnExact.j0 k bt299.1 bt299.2 true bt301.1 bt301.2.1 bt301.2.2.1 bt301.2.2.2))) else (if bt299.1.toList = ([] : List UInt8) then (some (bt299.2 == 0)) else (some false))))) true := by
  intro d hr h4
  exact Ev.bind (impl_bad hx hr h4) (Ev.bind (parts_is hx hr) (ev_else h4 (ev_if (by show (⟨#[]⟩ : ByteArray).toList = []; rw [ByteArray.toList_eq]) (Ev.now _))))
 cases hr : Ieee.double.read x with
 | nan s f => exact hbad hr (by simp [partsR])
 | infinity s => exact hbad hr (by simp [partsR])
 | number s M e =>
  by_cases hM : M = 0
  ·subst hM
   exact hbad hr (by simp [partsR])
  ·clear hbad
   obtain ⟨_, hM2, he1, he2, hfull, henc, _⟩ := CG.read_num hx hr
   obtain ⟨u, f, q2, q5⟩ := figures_any e hM
   have q1 := impl_good hx hr hM q2 q5
   have hlt : (e + 1074).toNat * 4503599627370496 + M < 9223372036854775808 := by omega
   have hy : x % 9223372036854775808 = (e + 1074).toNat * 4503599627370496 + M := by
    have h := henc
    unfold Go.Proofs.YtkjpelgdppmbjaaGreatDoor.CR.enc at h
    split at h <;> omega
   have hr2 := CN.read_enc false M e hM2 he1 he2 hfull
   have hen : Go.Proofs.YtkjpelgdppmbjaaGreatDoor.CR.enc false ((e + 1074).toNat * 4503599627370496 + M) = x % 9223372036854775808 := by
    rw [hy]
    unfold Go.Proofs.YtkjpelgdppmbjaaGreatDoor.CR.enc
    rw [if_neg (by decide)]
    try omega
   rw [hen] at hr2
   have p1 := impl_good (x := x % 9223372036854775808) (by omega) hr2 hM q2 q5
   obtain ⟨hgn, K, hK, huK⟩ := exact_few q2 hM2 (F := f.toNat) (g := (-f).toNat) (n := (-e).toNat) (l := e.toNat) (by omega) (by omega) (by omega) (by omega) q5
   have q3 : -1074 ≤ f := by omega
   have q4 : f ≤ 400 := exact_high q2 hM2 he2 q5
   have hs8 := size_of_lt huK (by omega)
   have hpos := decN_pos u
   have hu0 : u ≠ 0 := fun h => by subst h; exact q2 rfl
   have hend := decN_end u hu0
   have hw : wrap64 (((decN u).size : Int) - 1) = (((decN u).size - 1 : Nat) : Int) := by rw [w64 (by omega) (by omega)]; omega
   have hfig := spec_fig (decN u) (far_of hs8)
   rw [fig_ok u hs8] at hfig
   refine Ev.bind q1 (Ev.bind (parts_some hx hr hM) (ev_if rfl (Ev.bind p1 (ev_if rfl (ev_if rfl (ev_else (by show ¬ (((decN u).size : Int) = 0); omega) ?_))))))
   show Ev (fun k => if 0 ≤ (wrap64 (((decN u).size : Int) - 1)) then _ else _) true
   rw [hw]
   refine ev_if (by omega) (ev_if (by show (((decN u).size - 1 : Nat) : Int) < ((decN u).size : Int); omega) (ev_else (by rw [hend]; omega) (Ev.bind hfig ?_)))
   exact law_all 4 s q2 hM hM2 q3 q4 q5
end Go.Proofs.YtkjpelgdppmbjaaGreatDoor.Pure
