/- The fewest figures of a drawn finite number read back as it; with one figure less none near it do. No condition but the statement's own. -/
import Derived.Test.YtkjpelgdppmbjaaGreatDoorSTZip
import Derived.Test.YtkjpelgdppmbjaaGreatDoorSTMFnShortestx8
import Derived.Test.YtkjpelgdppmbjaaGreatDoorSTKA
namespace Go.Proofs.YtkjpelgdppmbjaaGreatDoor.Pure
open Go.RowKit MFnShortest YtkjpelgdppmbjaaGreatDoorW.PrintWords YtkjpelgdppmbjaaGreatDoorW.PrintLast CB
open Go.Proofs.YtkjpelgdppmbjaaGreatDoor
theorem and_low255 (x : Int) : 0 ≤ Go.bits .and .i64 x 255 ∧ Go.bits .and .i64 x 255 ≤ 255 := by
 have e : Go.bits .and .i64 x 255 = wrap64 (((BitVec.ofInt 64 x).toNat &&& 255 : Nat) : Int) := by
  simp only [Go.bits, wi64]
  show wrap64 (((BitVec.ofInt 64 x &&& BitVec.ofInt 64 255).toNat : Int)) = _
  rw [BitVec.toNat_and]
  rfl
 have h : (BitVec.ofInt 64 x).toNat &&& 255 ≤ 255 := Nat.and_le_right
 rw [e, w64 zo zo]
 omega
theorem spec_byte (l : List Int) (i h : Int) (hl : l.length ≤ 140737488351232) (hi : 0 ≤ i) : ∃ v i' h', spec_l01Byte.f l i h = some (v, i', h') ∧ (0 ≤ v ∧ v ≤ 255) ∧ 0 ≤ i' := by
 unfold spec_l01Byte.f
 by_cases h1 : i < (l.length : Int)
 ·rw [if_pos h1, if_pos hi]
  refine ⟨_, _, _, rfl, and_low255 _, ?_⟩
  rw [w64 zo zo]
  omega
 ·rw [if_neg h1]
  exact ⟨_, _, _, rfl, and_low255 _, hi⟩
theorem spec_below (l : List Int) (i h n : Int) (hl : l.length ≤ 140737488351232) (hi : 0 ≤ i) (hn : 0 < n) : ∃ v i' h', spec_l01Below.f l i h n = some (v, i', h') ∧ (0 ≤ v ∧ v < n) ∧ 0 ≤ i' := by
 unfold spec_l01Below.f
 rw [if_neg zo]
 by_cases h1 : n ≤ 256
 ·rw [if_pos h1]
  obtain ⟨v, i', h', e, hv, hi'⟩ := spec_byte l i h hl hi
  rw [e]
  simp only [Option.bind_some]
  rw [if_neg zo, tmodN hv.1]
  exact ⟨_, _, _, rfl, ⟨Int.emod_nonneg _ zo, Int.emod_lt_of_pos _ hn⟩, hi'⟩
 ·rw [if_neg h1]
  obtain ⟨v1, i1, h1, e1, r1, p1⟩ := spec_byte l i h hl hi
  obtain ⟨v2, i2, h2, e2, r2, p2⟩ := spec_byte l i1 h1 hl p1
  obtain ⟨v3, i3, h3, e3, r3, p3⟩ := spec_byte l i2 h2 hl p2
  obtain ⟨v4, i4, h4, e4, r4, p4⟩ := spec_byte l i3 h3 hl p3
  rw [e1]
  simp only [Option.bind_some]
  rw [e2]
  simp only [Option.bind_some]
  rw [e3]
  simp only [Option.bind_some]
  rw [e4]
  simp only [Option.bind_some]
  rw [if_neg zo, w64 (x := v1 * 16777216) zo zo, w64 (x := v2 * 65536) zo zo, w64 (x := v3 * 256) zo zo, w64 (x := v1 * 16777216 + v2 * 65536) zo zo, w64 (x := v1 * 16777216 + v2 * 65536 + v3 * 256) zo zo, w64 zo zo, tmodN zo]
  exact ⟨_, _, _, rfl, ⟨Int.emod_nonneg _ zo, Int.emod_lt_of_pos _ hn⟩, p4⟩
theorem spec_new_l0 (l : List Int) (_hl : l.length ≤ 140737488351232) : ∀ (d i : Nat) (x : Int), 4000 - i = d → i ≤ 4000 → ∃ h, Ev (fun k => spec_l01New.l0 k l x (i : Int)) (l, 0, h) := by
 have hr : ∀ (k i : Nat) (x : Int), spec_l01New.l0 (k + 1) l x (i : Int) = if (i : Int) < (l.length : Int) then (if (i : Int) < 4000 then (if 0 ≤ (i : Int) then (spec_l01New.l0 k l (Go.bits .and .i64 (wrap64 ((wrap64 ((wrap64 (x * 131)) + (wrap64 (rd l i)))) + 7)) 1073741823) (wrap64 ((i : Int) + 1))) else (none)) else (some (l, 0, x))) else (some (l, 0, x)) := fun _ _ _ => rfl
 intro d
 induction d with
 | zero =>
  intro i x hd hi
  refine ⟨x, Ev.step (f := fun _ => some (l, 0, x)) (fun k => ?_) (Ev.now _)⟩
  rw [hr]
  split
  ·rw [if_neg zo]
  ·rfl
 | succ d ih =>
  intro i x hd hi
  by_cases h1 : i < l.length
  ·obtain ⟨h, e⟩ := ih (i + 1) (Go.bits .and .i64 (wrap64 ((wrap64 ((wrap64 (x * 131)) + (wrap64 (rd l i)))) + 7)) 1073741823) zo zo
   exact ⟨h, Ev.step (fun k => by rw [hr, if_pos zo, if_pos zo, if_pos zo, w64s zo]) e⟩
  ·exact ⟨x, Ev.step (f := fun _ => some (l, 0, x)) (fun k => by rw [hr, if_neg zo]) (Ev.now _)⟩
theorem spec_new (l : List Int) (hl : l.length ≤ 140737488351232) : ∃ h, Ev (fun k => spec_l01New.f k l) (l, 0, h) := spec_new_l0 l hl 4000 0 _ zo zo
theorem spec_once (l : List Int) (i h n : Int) (hl : l.length ≤ 140737488351232) (hi : 0 ≤ i) (hn : 0 < n) : ∃ (b : Bool) (i' h' : Int), spec_l01Once.f l i h n = some (b, i', h') ∧ 0 ≤ i' := by
 obtain ⟨v, i', h', e, _, p⟩ := spec_below l i h n hl hi hn
 refine ⟨v == 0, i', h', ?_, p⟩
 unfold spec_l01Once.f
 rw [e]
 rfl
def clampE (E : Int) : Int := max (-5000) (min E 5000)
open CR in
def roundT (b : Bool) (M : Nat) (E : Int) (more : Bool) : Nat := if M = 0 then enc b 0 else nearS b M (clampE E) (more && decide (72057594037927936 ≤ M))
theorem spec_pow_l0 (n : Nat) (hn : n ≤ 63) : ∀ (d i : Nat), n - i = d → i ≤ n → Ev (fun k => spec_l03Pow.l0 k (n : Int) ((2 ^ i : Nat) : Int) (i : Int)) ((2 ^ n : Nat) : Int) := by
 intro d
 induction d with
 | zero =>
  intro i hd hi
  obtain rfl : i = n := by omega
  exact Ev.step (f := fun _ => some ((2 ^ i : Nat) : Int)) (fun k => by simp only [spec_l03Pow.l0]; rw [if_neg zo]) (Ev.now _)
 | succ d ih =>
  intro i hd hi
  refine Ev.step (fun k => ?_) (ih (i + 1) zo zo)
  simp only [spec_l03Pow.l0]
  have hp : 2 ^ (i + 1) ≤ 2 ^ 63 := Nat.pow_le_pow_right zo zo
  rw [if_pos zo, wu64, w64 zo zo]
  rw [Nat.pow_succ] at hp
  rw [show ((2 ^ i : Nat) : Int) * 2 % 18446744073709551616 = ((2 ^ (i + 1) : Nat) : Int) by rw [Nat.pow_succ]; omega]
  rfl
theorem spec_pow (n : Nat) (hn : n ≤ 63) : Ev (fun k => spec_l03Pow.f k (n : Int)) ((2 ^ n : Nat) : Int) := by
 unfold spec_l03Pow.f; exact spec_pow_l0 n hn n 0 zo zo
theorem spec_pow63 : Ev (fun k => spec_l03Pow.f k 63) 9223372036854775808 := spec_pow 63 zo
open CR in
theorem spec_sign (r : Nat) (b : Bool) (hr : r < 9223372036854775808) : Ev (fun k => spec_l03Sign.f k (r : Int) b) ((enc b r : Nat) : Int) := by
 unfold spec_l03Sign.f
 cases b
 ·exact Ev.now _
 ·simp only [if_true]
  refine Ev.bind spec_pow63 ?_
  rw [wu64, show ((r : Int) + 9223372036854775808) % 18446744073709551616 = ((enc true r : Nat) : Int) by unfold enc; rw [if_pos rfl]; omega]
  exact Ev.now _
open CR in
theorem spec_pack_j9 (b : Bool) (last : Int) (m : Nat) (h0 : -1074 ≤ last) (h1 : last ≤ 10000) (hm : m < 9007199254740992) (hn : last ≠ -1074 → 4503599627370496 ≤ m) :
  Ev (fun k => spec_RoundTo.j9 k b (m : Int) last) ((packN b last m : Nat) : Int) := by
 have hj : ∀ (k : Nat) (x1 x2 : Int), spec_RoundTo.j9 (k + 1) b x1 x2 = if x1 < 4503599627370496 then ((spec_l03Sign.f k x1 b).bind fun t104 => (some t104)) else (if x2 > 971 then ((spec_l03Sign.f k 9218868437227405312 b).bind fun t105 => (some t105)) else ((spec_l03Sign.f k (IntKind.u64.wrap ((IntKind.u64.wrap (x1 - 4503599627370496)) + (IntKind.u64.wrap ((IntKind.u64.wrap (wrap64 (x2 + 1075))) * 4503599627370496)))) b).bind fun t106 => (some t106))) := fun _ _ _ => rfl
 by_cases h3 : m < 4503599627370496
 ·have hl : last = -1074 := by
   rcases Int.lt_or_eq_of_le h0 with h | h
   ·have := hn zo; omega
   ·exact h.symm
  subst hl
  have e : packN b (-1074) m = enc b m := by
   unfold packN
   rw [Nat.min_eq_left zo, show (-1074 + 1074 : Int).toNat * 4503599627370496 + m = m by omega]
  rw [e]
  exact Ev.step (fun k => by rw [hj, if_pos zo]) (Ev.bind (spec_sign m b zo) (Ev.now _))
 ·by_cases h2 : last > 971
  ·have e : packN b last m = enc b 9218868437227405312 := by
    unfold packN
    rw [Nat.min_eq_right zo]
   rw [e]
   have hs : Ev (fun k => spec_l03Sign.f k 9218868437227405312 b) ((enc b 9218868437227405312 : Nat) : Int) := spec_sign 9218868437227405312 b zo
   exact Ev.step (fun k => by rw [hj, if_neg zo, if_pos h2]) (Ev.bind hs (Ev.now _))
  ·have e : packN b last m = enc b (m - 4503599627370496 + (last + 1075).toNat * 4503599627370496) := by
    unfold packN
    rw [Nat.min_eq_left zo]
    exact congrArg (enc b) zo
   rw [e]
   refine Ev.step (fun k => ?_) (Ev.bind (spec_sign (m - 4503599627370496 + (last + 1075).toNat * 4503599627370496) b zo) (Ev.now _))
   rw [hj, if_neg zo, if_neg h2, w64 (x := last + 1075) zo zo, wu64, wu64, wu64, wu64,
    show (((m : Int) - 4503599627370496) % 18446744073709551616 + (last + 1075) % 18446744073709551616 * 4503599627370496 % 18446744073709551616) % 18446744073709551616 = ((m - 4503599627370496 + (last + 1075).toNat * 4503599627370496 : Nat) : Int) by omega]
open CR in
theorem spec_pack_j8 (b : Bool) (last : Int) (m : Nat) (h0 : -1074 ≤ last) (h1 : last ≤ 9000) (hm : m ≤ 9007199254740992) (hn : last ≠ -1074 → 4503599627370496 ≤ m) :
  Ev (fun k => spec_RoundTo.j8 k b (m : Int) last) ((packN b last m : Nat) : Int) := by
 have hj : ∀ (k : Nat) (x1 x2 : Int), spec_RoundTo.j8 (k + 1) b x1 x2 = if x1 = 9007199254740992 then (spec_RoundTo.j9 k b 4503599627370496 (wrap64 (x2 + 1))) else (spec_RoundTo.j9 k b x1 x2) := fun _ _ _ => rfl
 by_cases h2 : m = 9007199254740992
 ·subst h2
  have e : packN b last 9007199254740992 = packN b (last + 1) 4503599627370496 := by
   unfold packN
   rw [show (last + 1074).toNat * 4503599627370496 + 9007199254740992 = (last + 1 + 1074).toNat * 4503599627370496 + 4503599627370496 by omega]
  rw [e]
  refine Ev.step (fun k => ?_) (spec_pack_j9 b (last + 1) 4503599627370496 zo zo zo (fun _ => by omega))
  rw [hj, if_pos zo, w64 zo zo]
  rfl
 ·exact Ev.step (fun k => by rw [hj, if_neg zo]) (spec_pack_j9 b last m h0 zo zo hn)
open CR in
theorem spec_pack_j7 (b : Bool) (last : Int) (m : Nat) (z : Bool) (h0 : -1074 ≤ last) (h1 : last ≤ 9000) (hm : m + z.toNat ≤ 9007199254740992) (hn : last ≠ -1074 → 4503599627370496 ≤ m) :
  Ev (fun k => spec_RoundTo.j7 k b (m : Int) last z) ((packN b last (m + z.toNat) : Nat) : Int) := by
 have hj : ∀ (k : Nat) (x1 x2 : Int) (z : Bool), spec_RoundTo.j7 (k + 1) b x1 x2 z = if z = true then (spec_RoundTo.j8 k b (IntKind.u64.wrap (x1 + 1)) x2) else (spec_RoundTo.j8 k b x1 x2) := fun _ _ _ _ => rfl
 cases z
 ·exact Ev.step (fun k => by rw [hj, if_neg (by simp)]) (spec_pack_j8 b last m h0 h1 (by simpa using hm) hn)
 ·refine Ev.step (fun k => ?_) (spec_pack_j8 b last (m + 1) h0 h1 (by simpa using hm) (fun h => by have := hn h; omega))
  have hm' : m + 1 ≤ 9007199254740992 := by simpa using hm
  rw [hj, if_pos rfl, wu64, show ((m : Int) + 1) % 18446744073709551616 = ((m + 1 : Nat) : Int) by omega]
def halfB (M j : Nat) : Bool := decide (1 ≤ j ∧ M / 2 ^ (j - 1) % 2 = 1)
def restB (st : Bool) (M j : Nat) : Bool := st || decide (1 ≤ j ∧ M % 2 ^ (j - 1) ≠ 0)
open CR in
theorem round_bits (st : Bool) (M d : Nat) (hst : st = true → 1 ≤ d) : M / 2 ^ d + (halfB M d && (restB st M d || (M / 2 ^ d % 2 == 1))).toNat = if st then rneS M d else rne M d := by
 cases d with
 | zero =>
  have e : halfB M 0 = false := by unfold halfB; exact decide_eq_false zo
  rw [e]
  cases st
  ·rw [rne_zero]; simp
  ·have := hst rfl; omega
 | succ c =>
  have e2 : (2 : Nat) ^ (c + 1) = 2 * 2 ^ c := by rw [Nat.pow_succ]; omega
  have hmod : M % 2 ^ (c + 1) = M % 2 ^ c + 2 ^ c * (M / 2 ^ c % 2) := Nat.mod_pow_succ
  have hlt : M % 2 ^ c < 2 ^ c := Nat.mod_lt _ (Nat.pow_pos zo)
  unfold rneS rne halfB restB
  rw [show c + 1 - 1 = c by omega, hmod, e2]
  generalize M / (2 * 2 ^ c) = q
  have hb : M / 2 ^ c % 2 = 0 ∨ M / 2 ^ c % 2 = 1 := by omega
  generalize M / 2 ^ c % 2 = h at *
  generalize M % 2 ^ c = r at *
  generalize 2 ^ c = p at *
  rcases hb with rfl | rfl
  ·rw [Nat.mul_zero, Nat.add_zero]
   have e : decide (1 ≤ c + 1 ∧ 0 = 1) = false := decide_eq_false zo
   rw [e]
   cases st
   ·rw [if_neg (by simp), if_neg zo]; rfl
   ·rw [if_pos rfl, if_neg zo]; rfl
  ·rw [Nat.mul_one]
   have e : decide (1 ≤ c + 1 ∧ 1 = 1) = true := decide_eq_true zo
   rw [e, Bool.true_and]
   cases st
   ·rw [if_neg (by simp)]
    by_cases h0 : r = 0
    ·subst h0
     have e3 : decide (1 ≤ c + 1 ∧ 0 ≠ 0) = false := decide_eq_false zo
     rw [e3, Bool.false_or, Bool.false_or]
     by_cases h1 : q % 2 = 1
     ·rw [if_pos (.inr zo), show (q % 2 == 1) = true by simpa using h1]; rfl
     ·rw [if_neg zo, show (q % 2 == 1) = false by simpa using h1]; rfl
    ·have e3 : decide (1 ≤ c + 1 ∧ r ≠ 0) = true := decide_eq_true zo
     rw [e3, if_pos (.inl zo)]; rfl
   ·rw [if_pos rfl, if_pos zo]; rfl
theorem half_next (M j : Nat) : halfB M (j + 1) = (M / 2 ^ j % 2 == 1) := by
 unfold halfB
 rw [show j + 1 - 1 = j by omega]
 by_cases h : M / 2 ^ j % 2 = 1
 ·rw [decide_eq_true zo]; exact (beq_iff_eq.mpr h).symm
 ·rw [decide_eq_false zo]; exact (beq_eq_false_iff_ne.mpr h).symm
theorem rest_next (st : Bool) (M j : Nat) : restB st M (j + 1) = (restB st M j || halfB M j) := by
 unfold restB halfB
 rw [show j + 1 - 1 = j by omega]
 cases st
 ·simp only [Bool.false_or]
  cases j with
  | zero => simp [Nat.mod_one]
  | succ c =>
   rw [show c + 1 - 1 = c by omega, Nat.mod_pow_succ]
   have hp : 0 < 2 ^ c := Nat.pow_pos zo
   generalize M % 2 ^ c = r
   have hb : M / 2 ^ c % 2 = 0 ∨ M / 2 ^ c % 2 = 1 := by omega
   generalize M / 2 ^ c % 2 = h at *
   generalize 2 ^ c = p at *
   rcases hb with rfl | rfl
   ·rw [Nat.mul_zero, Nat.add_zero]; simp
   ·rw [Nat.mul_one]; simp; omega
 ·simp
theorem spec_l1_done (k : Nat) (b : Bool) (m : Int) (e : Int) (h r : Bool) (h1 : ¬ m ≥ 9007199254740992) (h2 : -1074 ≤ e) : spec_RoundTo.l1 (k + 2) b m e h r = spec_RoundTo.j7 k b m e (h && (r || (Int.tmod m 2 == 1))) := by
 have hj6 : ∀ (k : Nat), spec_RoundTo.j6 (k + 1) b m e h r false = (if h = true then (if r = true then (spec_RoundTo.j7 k b m e true) else (spec_RoundTo.j7 k b m e ((Int.tmod m 2) == 1))) else (spec_RoundTo.j7 k b m e false)) := fun _ => rfl
 have hl : ∀ (k : Nat), spec_RoundTo.l1 (k + 1) b m e h r = if m ≥ 9007199254740992 then (spec_RoundTo.j6 k b m e h r true) else (spec_RoundTo.j6 k b m e h r (decide (e < (-1074)))) := fun _ => rfl
 rw [hl, if_neg h1, decide_eq_false zo, hj6]
 cases h <;> cases r <;> rfl
theorem spec_l1_next (k : Nat) (b : Bool) (m : Nat) (e : Int) (h r : Bool) (hm : m < 18446744073709551616) (he : -30000 ≤ e ∧ e ≤ 30000) (hc : m ≥ 9007199254740992 ∨ e < -1074) :
  spec_RoundTo.l1 (k + 2) b (m : Int) e h r = if m / 2 = 0 ∧ e + 1 < -1074 then spec_RoundTo.l1 k b 0 (-1074) false ((r || h) || (m % 2 == 1)) else spec_RoundTo.l1 k b ((m / 2 : Nat) : Int) (e + 1) (m % 2 == 1) (r || h) := by
 have hj6 : ∀ (k : Nat), spec_RoundTo.j6 (k + 1) b (m : Int) e h r true = if r = true then (if (IntKind.u64.wrap (Int.tdiv (m : Int) 2)) = 0 then (if (wrap64 (e + 1)) < (-1074) then (spec_RoundTo.l1 k b (IntKind.u64.wrap (Int.tdiv (m : Int) 2)) (-1074) false true) else (spec_RoundTo.l1 k b (IntKind.u64.wrap (Int.tdiv (m : Int) 2)) (wrap64 (e + 1)) ((Int.tmod (m : Int) 2) == 1) true)) else (spec_RoundTo.l1 k b (IntKind.u64.wrap (Int.tdiv (m : Int) 2)) (wrap64 (e + 1)) ((Int.tmod (m : Int) 2) == 1) true)) else (if (IntKind.u64.wrap (Int.tdiv (m : Int) 2)) = 0 then (if (wrap64 (e + 1)) < (-1074) then (if h = true then (spec_RoundTo.l1 k b (IntKind.u64.wrap (Int.tdiv (m : Int) 2)) (-1074) false true) else (spec_RoundTo.l1 k b (IntKind.u64.wrap (Int.tdiv (m : Int) 2)) (-1074) false ((Int.tmod (m : Int) 2) == 1))) else (spec_RoundTo.l1 k b (IntKind.u64.wrap (Int.tdiv (m : Int) 2)) (wrap64 (e + 1)) ((Int.tmod (m : Int) 2) == 1) h)) else (spec_RoundTo.l1 k b (IntKind.u64.wrap (Int.tdiv (m : Int) 2)) (wrap64 (e + 1)) ((Int.tmod (m : Int) 2) == 1) h)) := fun _ => rfl
 have hl : ∀ (k : Nat), spec_RoundTo.l1 (k + 1) b (m : Int) e h r = if (m : Int) ≥ 9007199254740992 then (spec_RoundTo.j6 k b (m : Int) e h r true) else (spec_RoundTo.j6 k b (m : Int) e h r (decide (e < (-1074)))) := fun _ => rfl
 have e0 : spec_RoundTo.l1 (k + 2) b (m : Int) e h r = spec_RoundTo.j6 (k + 1) b (m : Int) e h r true := by
  rw [hl]
  by_cases h1 : (m : Int) ≥ 9007199254740992
  ·rw [if_pos h1]
  ·rw [if_neg h1, decide_eq_true zo]
 have e1 : IntKind.u64.wrap (Int.tdiv (m : Int) 2) = ((m / 2 : Nat) : Int) := by rw [wu64, tdivN (Int.natCast_nonneg m)]; omega
 have e2 : ((Int.tmod (m : Int) 2) == 1) = (m % 2 == 1) := by
  rw [tmodN (Int.natCast_nonneg m), Bool.eq_iff_iff]; simp; omega
 have e3 : wrap64 (e + 1) = e + 1 := w64 zo zo
 rw [e0, hj6, e1, e2, e3]
 clear hj6 hl e0 e1 e2 e3
 by_cases h0 : m / 2 = 0
 ·have h0' : ((m / 2 : Nat) : Int) = 0 := by omega
  rw [h0']
  by_cases h1 : e + 1 < -1074
  ·simp only [if_pos h1, if_pos (show m / 2 = 0 ∧ e + 1 < -1074 from ⟨h0, h1⟩)]
   cases r <;> cases h <;> rfl
  ·simp only [if_neg h1, if_neg (show ¬ (m / 2 = 0 ∧ e + 1 < -1074) from fun hh => h1 hh.2)]
   cases r <;> cases h <;> rfl
 ·have h0' : ¬ ((m / 2 : Nat) : Int) = 0 := by omega
  simp only [if_neg h0', if_neg (show ¬ (m / 2 = 0 ∧ e + 1 < -1074) from fun hh => h0 hh.1)]
  cases r <;> cases h <;> rfl
open CR in
theorem spec_l1_run (b st : Bool) (M : Nat) (E : Int) (D : Nat) (_h0 : M ≠ 0) (hM : M < 18446744073709551616) (hE : -5000 ≤ E ∧ E ≤ 5000) (hst : st = true → 1 ≤ D) (hD0 : -1074 ≤ E + D) (hD1 : M < 2 ^ (53 + D)) (hD2 : D < 10000) (hD3 : E + D ≤ 9000) (hstep : ∀ j, j < D → 2 ^ (53 + j) ≤ M ∨ E + j < -1074)
  (hn : E + D ≠ -1074 → 4503599627370496 ≤ M / 2 ^ D) :
  ∀ (d j : Nat), D - j = d → j ≤ D → Ev (fun k => spec_RoundTo.l1 k b ((M / 2 ^ j : Nat) : Int) (E + j) (halfB M j) (restB st M j)) ((packN b (E + D) (if st then rneS M D else rne M D) : Nat) : Int) := by
 intro d
 induction d with
 | zero =>
  intro j hd hj
  obtain rfl : j = D := by omega
  have hq : M / 2 ^ j < 9007199254740992 := Nat.div_lt_of_lt_mul (by rw [show (9007199254740992 : Nat) = 2 ^ 53 from rfl, ← Nat.pow_add, Nat.add_comm]; exact hD1)
  have hb := round_bits st M j hst
  rw [← hb]
  refine Ev.step (f := fun k => spec_RoundTo.l1 (k + 1) b ((M / 2 ^ j : Nat) : Int) (E + j) (halfB M j) (restB st M j)) (fun _ => rfl) ?_
  have ht : (Int.tmod ((M / 2 ^ j : Nat) : Int) 2 == 1) = (M / 2 ^ j % 2 == 1) := by
   rw [tmodN (Int.natCast_nonneg _), Bool.eq_iff_iff]
   generalize M / 2 ^ j = q
   simp; omega
  generalize hz : (halfB M j && (restB st M j || (M / 2 ^ j % 2 == 1))) = z
  have hz1 : z.toNat ≤ 1 := by cases z <;> decide
  refine Ev.step (fun k => ?_) (spec_pack_j7 b (E + j) (M / 2 ^ j) z hD0 hD3 zo hn)
  rw [spec_l1_done k b _ _ _ _ zo hD0, ht, hz]
 | succ d ih =>
  intro j hd hj
  have hc := hstep j zo
  have hle : M / 2 ^ j ≤ M := Nat.div_le_self _ _
  have hdiv : M / 2 ^ j / 2 = M / 2 ^ (j + 1) := by rw [Nat.div_div_eq_div_mul, ← Nat.pow_succ]
  have hcond : M / 2 ^ j ≥ 9007199254740992 ∨ E + (j : Int) < -1074 := by
   rcases hc with h | h
   ·left
    exact (Nat.le_div_iff_mul_le (Nat.pow_pos zo)).2 (by rw [show (9007199254740992 : Nat) = 2 ^ 53 from rfl, ← Nat.pow_add]; exact h)
   ·right; exact h
  have hnx : ∀ k, spec_RoundTo.l1 (k + 2) b ((M / 2 ^ j : Nat) : Int) (E + j) (halfB M j) (restB st M j) = if M / 2 ^ j / 2 = 0 ∧ E + j + 1 < -1074 then spec_RoundTo.l1 k b 0 (-1074) false ((restB st M j || halfB M j) || (M / 2 ^ j % 2 == 1)) else spec_RoundTo.l1 k b ((M / 2 ^ j / 2 : Nat) : Int) (E + j + 1) (M / 2 ^ j % 2 == 1) (restB st M j || halfB M j) :=
   fun k => spec_l1_next k b (M / 2 ^ j) (E + j) _ _ zo zo hcond
  refine Ev.step (f := fun k => spec_RoundTo.l1 (k + 1) b ((M / 2 ^ j : Nat) : Int) (E + j) (halfB M j) (restB st M j)) (fun _ => rfl) ?_
  by_cases hz : M / 2 ^ j / 2 = 0 ∧ E + j + 1 < -1074
  ·-- nothing is left of it
   have hz1 := hz.1
   rw [hdiv] at hz1
   have hlt : M < 2 ^ (j + 1) := by
    rcases Nat.lt_or_ge M (2 ^ (j + 1)) with h | h
    ·exact h
    ·have := Nat.div_pos h (Nat.pow_pos (n := j + 1) (show 0 < 2 by omega)); omega
   have hDj : j + 2 ≤ D := by omega
   have hp : 2 ^ (j + 2) ≤ 2 ^ D := Nat.pow_le_pow_right zo hDj
   have hp2 : (2 : Nat) ^ (j + 2) = 2 * 2 ^ (j + 1) := by rw [Nat.pow_succ 2 (j + 1)]; omega
   have hS : rneS M D = 0 := by
    unfold rneS
    generalize 2 ^ D = q at *
    generalize 2 ^ (j + 2) = u at *
    generalize 2 ^ (j + 1) = v at *
    rw [Nat.div_eq_of_lt (show M < q by omega), Nat.mod_eq_of_lt (show M < q by omega), if_neg zo]
   have hR : rne M D = 0 := by
    unfold rne
    generalize 2 ^ D = q at *
    generalize 2 ^ (j + 2) = u at *
    generalize 2 ^ (j + 1) = v at *
    rw [Nat.div_eq_of_lt (show M < q by omega), Nat.mod_eq_of_lt (show M < q by omega), if_neg zo]
   have hz2 : (if st then rneS M D else rne M D) = 0 := by rw [hS, hR]; cases st <;> rfl
   rw [hz2]
   have hq0 : M / 2 ^ D = 0 := Nat.div_eq_of_lt (by
    generalize 2 ^ D = q at *
    generalize 2 ^ (j + 2) = u at *
    generalize 2 ^ (j + 1) = v at *
    omega)
   have hED : E + D = -1074 := by
    rcases Classical.em (E + D = -1074) with h | h
    ·exact h
    ·have := hn h; omega
   rw [hED]
   refine Ev.step (f := fun k => spec_RoundTo.l1 k b 0 (-1074) false ((restB st M j || halfB M j) || (M / 2 ^ j % 2 == 1))) (fun k => by rw [hnx k, if_pos hz]) ?_
   refine Ev.step (f := fun k => spec_RoundTo.l1 (k + 1) b 0 (-1074) false ((restB st M j || halfB M j) || (M / 2 ^ j % 2 == 1))) (fun _ => rfl) ?_
   exact Ev.step (fun k => by rw [spec_l1_done k b 0 (-1074) false _ zo zo, Bool.false_and]; rfl) (spec_pack_j7 b (-1074) 0 false zo zo (by decide) (fun h => absurd rfl h))
  ·have h' := ih (j + 1) zo zo
   rw [half_next, rest_next, ← hdiv] at h'
   refine Ev.step (fun k => ?_) h'
   rw [hnx k, if_neg hz]
   rw [show E + (j : Int) + 1 = E + ((j + 1 : Nat) : Int) by omega]
open CR in
theorem spec_l0_run (b st : Bool) (M : Nat) (E : Int) (h0 : M ≠ 0) (hM : M < 18446744073709551616) (hE : -5000 ≤ E ∧ E ≤ 5000) (r : Int) :
  ∀ (d i : Nat), (E - lastP M E).toNat - i = d → i ≤ (E - lastP M E).toNat →
  Ev (fun k => spec_RoundTo.l1 k b ((M * 2 ^ (E - lastP M E).toNat : Nat) : Int) (E - (E - lastP M E).toNat) false st) r →
  Ev (fun k => spec_RoundTo.l0 k b ((M * 2 ^ i : Nat) : Int) (E - i) st) r := by
 have hl : ∀ (k : Nat) (x1 x2 : Int), spec_RoundTo.l0 (k + 1) b x1 x2 st = if x1 < 4503599627370496 then (if x2 > (-1074) then (spec_RoundTo.l0 k b (IntKind.u64.wrap (x1 * 2)) (wrap64 (x2 - 1)) st) else (spec_RoundTo.j4 k b x1 x2 st)) else (spec_RoundTo.j4 k b x1 x2 st) := fun _ _ _ => rfl
 have hj4 : ∀ (k : Nat) (x1 x2 : Int), spec_RoundTo.j4 (k + 1) b x1 x2 st = spec_RoundTo.l1 k b x1 x2 false st := fun _ _ _ => rfl
 have hlog := log_le h0
 have hlog2 := lt_log M
 have hlogM : M.log2 < 64 := log_mono hM h0
 intro d
 induction d with
 | zero =>
  intro i hd hi h
  obtain rfl : i = (E - lastP M E).toNat := by omega
  refine Ev.step (f := fun k => spec_RoundTo.j4 k b ((M * 2 ^ (E - lastP M E).toNat : Nat) : Int) (E - (E - lastP M E).toNat) st) (fun k => ?_) (Ev.step (fun k => by rw [hj4]) h)
  rw [hl]
  by_cases h1 : ((M * 2 ^ (E - lastP M E).toNat : Nat) : Int) < 4503599627370496
  ·rw [if_pos h1]
   have : ¬ (E - ((E - lastP M E).toNat : Int) > -1074) := by
    intro h2
    have h3 : M * 2 ^ (E - lastP M E).toNat < 2 ^ 52 := by
     have : (2 : Nat) ^ 52 = 4503599627370496 := rfl
     omega
    have h4 : 2 ^ (M.log2 + (E - lastP M E).toNat) ≤ M * 2 ^ (E - lastP M E).toNat := by
     rw [Nat.pow_add]; exact Nat.mul_le_mul_right _ hlog
    have h5 : M.log2 + (E - lastP M E).toNat < 52 := by
     rcases Nat.lt_or_ge (M.log2 + (E - lastP M E).toNat) 52 with h | h
     ·exact h
     ·have := Nat.pow_le_pow_right (n := 2) zo h
      omega
    clear h1 h3 h4
    unfold lastP at *
    omega
   rw [if_neg this]
  ·rw [if_neg h1]
 | succ d ih =>
  intro i hd hi h
  have h' := ih (i + 1) zo zo h
  refine Ev.step (fun k => ?_) h'
  have hlt : M * 2 ^ i < 4503599627370496 := by
   have h3 : M * 2 ^ i < 2 ^ (M.log2 + 1) * 2 ^ i := Nat.mul_lt_mul_of_pos_right hlog2 (Nat.pow_pos zo)
   rw [← Nat.pow_add] at h3
   exact Nat.lt_of_lt_of_le h3 (Nat.pow_le_pow_right (n := 2) zo (show M.log2 + 1 + i ≤ 52 by unfold lastP at *; omega))
  have hgt : E - (i : Int) > -1074 := by unfold lastP at *; omega
  have e1 : M * 2 ^ (i + 1) = M * 2 ^ i * 2 := by rw [Nat.pow_succ, Nat.mul_assoc]
  rw [e1]
  generalize M * 2 ^ i = p at *
  rw [hl, if_pos zo, if_pos hgt, wu64, w64 zo zo, show ((p : Nat) : Int) * 2 % 18446744073709551616 = ((p * 2 : Nat) : Int) by omega, show E - (i : Int) - 1 = E - ((i + 1 : Nat) : Int) by omega]
open CR in
theorem spec_round_l0 (b st : Bool) (M : Nat) (E : Int) (h0 : M ≠ 0) (hM : M < 18446744073709551616) (hE : -5000 ≤ E ∧ E ≤ 5000) (hst : st = true → 72057594037927936 ≤ M) :
  Ev (fun k => spec_RoundTo.l0 k b (M : Int) E st) ((nearS b M E st : Nat) : Int) := by
 have hlog := log_le h0
 have hlog2 := lt_log M
 have hlogM : M.log2 < 64 := log_mono hM h0
 have h := spec_l0_run b st M E h0 hM hE ((nearS b M E st : Nat) : Int) (E - lastP M E).toNat 0 zo zo
 rw [Nat.pow_zero, Nat.mul_one, show E - ((0 : Nat) : Int) = E by omega] at h
 refine h ?_
 have hlp : -1074 ≤ lastP M E ∧ lastP M E ≤ 8000 := by unfold lastP; omega
 have hlp2 : E + M.log2 - 52 ≤ lastP M E := by unfold lastP; omega
 have hlp3 : lastP M E = -1074 ∨ lastP M E = E + M.log2 - 52 := by unfold lastP; omega
 have hkr := kept_range M E h0
 by_cases hd : lastP M E > E
 ·-- down
  have hres : nearS b M E st = packN b (E + ((lastP M E - E).toNat : Int)) (if st then rneS M (lastP M E - E).toNat else rne M (lastP M E - E).toNat) := by
   rw [show E + ((lastP M E - E).toNat : Int) = lastP M E by omega]
   cases st
   ·unfold nearS
    rw [if_neg (by simp), if_neg (by simp), near_down b M E h0 zo]
   ·rw [near_st b M E (hst rfl), if_pos rfl]
  rw [hres, show (E - lastP M E).toNat = 0 by omega, Nat.pow_zero, Nat.mul_one, show E - ((0 : Nat) : Int) = E by omega]
  have hrun := spec_l1_run b st M E (lastP M E - E).toNat h0 hM hE (fun _ => by omega) zo
   (Nat.lt_of_lt_of_le hlog2 (Nat.pow_le_pow_right zo zo)) zo zo
   (fun j hj => by
    rcases Classical.em (E + j < -1074) with h | h
    ·exact .inr h
    ·left; exact Nat.le_trans (Nat.pow_le_pow_right zo zo) hlog)
   (fun hne => by
    have hx : lastP M E ≠ -1074 := by omega
    refine (Nat.le_div_iff_mul_le (Nat.pow_pos zo)).2 ?_
    rw [show (4503599627370496 : Nat) = 2 ^ 52 from rfl, ← Nat.pow_add]
    exact Nat.le_trans (Nat.pow_le_pow_right zo zo) hlog)
   (lastP M E - E).toNat 0 zo zo
  rw [Nat.pow_zero, Nat.div_one, show E + ((0 : Nat) : Int) = E by omega] at hrun
  have e1 : halfB M 0 = false := by unfold halfB; exact decide_eq_false zo
  have e2 : restB st M 0 = st := by unfold restB; rw [decide_eq_false zo, Bool.or_false]
  rw [e1, e2] at hrun
  exact hrun
 ·-- up
  have hst2 : st = false := by
   cases st
   ·rfl
   ·have := lastP_big M E (hst rfl); omega
  subst hst2
  have hres : nearS b M E false = packN b (lastP M E) (M * 2 ^ (E - lastP M E).toNat) := by
   unfold nearS
   rw [if_neg (by simp), near_up b M E h0 zo]
  rw [show (lastP M E - E).toNat = 0 by omega, rne_zero] at hkr
  rw [hres, show E - (((E - lastP M E).toNat : Nat) : Int) = lastP M E by omega]
  generalize hm : M * 2 ^ (E - lastP M E).toNat = m at *
  rcases Nat.lt_or_ge m 9007199254740992 with hmlt | hmge
  ·refine Ev.step (f := fun k => spec_RoundTo.l1 (k + 1) b (m : Int) (lastP M E) false false) (fun _ => rfl) ?_
   have hp := spec_pack_j7 b (lastP M E) m false hlp.1 zo (by show m + 0 ≤ _; omega) hkr.2
   exact Ev.step (fun k => by rw [spec_l1_done k b (m : Int) (lastP M E) false false zo hlp.1, Bool.false_and]) hp
  ·exfalso
   have h3 : M * 2 ^ (E - lastP M E).toNat < 2 ^ (M.log2 + 1) * 2 ^ (E - lastP M E).toNat := Nat.mul_lt_mul_of_pos_right hlog2 (Nat.pow_pos zo)
   rw [← Nat.pow_add] at h3
   have h4 := Nat.pow_le_pow_right (n := 2) zo (show M.log2 + 1 + (E - lastP M E).toNat ≤ 53 by omega)
   have h5 : (2 : Nat) ^ 53 = 9007199254740992 := rfl
   omega
open CR in
theorem spec_round (b : Bool) (M : Nat) (hM : M < 18446744073709551616) (E : Int) (more : Bool) :
  Ev (fun k => spec_RoundTo.f k b (M : Int) E more) ((roundT b M E more : Nat) : Int) := by
 have hj0 : ∀ (k : Nat) (x2 : Int), spec_RoundTo.j0 (k + 1) b (M : Int) x2 more = if x2 < (-5000) then (spec_RoundTo.j1 k b (M : Int) (-5000) more) else (spec_RoundTo.j1 k b (M : Int) x2 more) := fun _ _ => rfl
 have hj1 : ∀ (k : Nat) (x2 : Int), spec_RoundTo.j1 (k + 1) b (M : Int) x2 more = if more = true then ((spec_l03Pow.f k 56).bind fun t102 => (spec_RoundTo.j2 k b (M : Int) x2 (decide ((M : Int) ≥ t102)))) else (spec_RoundTo.j2 k b (M : Int) x2 false) := fun _ _ => rfl
 have hj2 : ∀ (k : Nat) (x2 : Int) (z : Bool), spec_RoundTo.j2 (k + 1) b (M : Int) x2 z = if (M : Int) = 0 then ((spec_l03Sign.f k 0 b).bind fun t103 => (some t103)) else (spec_RoundTo.l0 k b (M : Int) x2 z) := fun _ _ _ => rfl
 have hcr : -5000 ≤ clampE E ∧ clampE E ≤ 5000 := by unfold clampE; omega
 have k2 : ∀ z : Bool, z = (more && decide (72057594037927936 ≤ M)) → Ev (fun k => spec_RoundTo.j2 k b (M : Int) (clampE E) z) ((roundT b M E more : Nat) : Int) := by
  intro z hz
  unfold roundT
  by_cases h0 : M = 0
  ·rw [if_pos h0]
   have hs : Ev (fun k => spec_l03Sign.f k 0 b) ((enc b 0 : Nat) : Int) := spec_sign 0 b zo
   exact Ev.step (fun k => by rw [hj2, if_pos zo]) (Ev.bind hs (Ev.now _))
  ·rw [if_neg h0, ← hz]
   exact Ev.step (fun k => by rw [hj2, if_neg zo]) (spec_round_l0 b z M (clampE E) h0 hM hcr (fun hh => by rw [hz] at hh; simp at hh; exact hh.2))
 have k1 : Ev (fun k => spec_RoundTo.j1 k b (M : Int) (clampE E) more) ((roundT b M E more : Nat) : Int) := by
  cases hm : more
  ·rw [hm] at k2 hj1
   exact Ev.step (fun k => by rw [hj1, if_neg (by simp)]) (k2 false (by simp))
  ·rw [hm] at k2 hj1
   have hp : Ev (fun k => spec_l03Pow.f k 56) ((2 ^ 56 : Nat) : Int) := spec_pow 56 zo
   refine Ev.step (f := fun k => (spec_l03Pow.f k 56).bind fun t102 => spec_RoundTo.j2 k b (M : Int) (clampE E) (decide ((M : Int) ≥ t102))) (fun k => by rw [hj1, if_pos rfl]) (Ev.bind hp ?_)
   refine k2 _ ?_
   rw [Bool.true_and, decide_eq_decide]
   have : ((2 ^ 56 : Nat) : Int) = 72057594037927936 := rfl
   rw [this]; omega
 unfold spec_RoundTo.f
 by_cases h1 : E > 5000
 ·simp only [if_pos h1]
  have : clampE E = 5000 := by unfold clampE; omega
  rw [this] at k1
  exact Ev.step (fun k => by rw [hj0, if_neg zo]) k1
 ·simp only [if_neg h1]
  by_cases h2 : E < -5000
  ·have : clampE E = -5000 := by unfold clampE; omega
   rw [this] at k1
   exact Ev.step (fun k => by rw [hj0, if_pos h2]) k1
  ·have : clampE E = E := by unfold clampE; omega
   rw [this] at k1
   exact Ev.step (fun k => by rw [hj0, if_neg h2]) k1
def valI (B : Int) : List Int → Int
 | [] => 0
 | x :: l => x + B * valI B l
theorem valI_append (B : Int) (l m : List Int) : valI B (l ++ m) = valI B l + B ^ l.length * valI B m := by
 induction l with
 | nil => simp [valI]
 | cons x l ih =>
  simp only [List.cons_append, valI, ih, List.length_cons, Int.pow_succ]
  grind
theorem valI_take_succ (B : Int) (l : List Int) (i : Nat) (h : i < l.length) : valI B (l.take (i + 1)) = valI B (l.take i) + B ^ i * l.getD i 0 := by
 rw [List.take_succ_eq_append_getElem h, valI_append]
 have : (l.take i).length = i := by simp; omega
 rw [this]
 simp [valI, List.getD_eq_getElem?_getD, List.getElem?_eq_getElem h]
theorem valI_zeros (B : Int) (n : Nat) : valI B (List.replicate n 0) = 0 := by
 induction n with
 | zero => rfl
 | succ n ih => rw [List.replicate_succ]; simp [valI, ih]
theorem valI_split (B : Int) (l : List Int) (i : Nat) (h : i ≤ l.length) : valI B l = valI B (l.take i) + B ^ i * valI B (l.drop i) := by
 conv => lhs; rw [← List.take_append_drop i l]
 rw [valI_append]
 have : (l.take i).length = i := by simp; omega
 rw [this]
theorem valI_range (B : Int) (hB : 0 < B) (l : List Int) (h : ∀ x ∈ l, 0 ≤ x ∧ x < B) : 0 ≤ valI B l ∧ valI B l < B ^ l.length := by
 induction l with
 | nil => simp [valI]
 | cons x l ih =>
  have h1 := h x (by simp)
  have h2 := ih (fun y hy => h y (by simp [hy]))
  simp only [valI, List.length_cons, Int.pow_succ]
  have h3 : 0 ≤ B * valI B l := Int.mul_nonneg zo h2.1
  have h4 : B * valI B l ≤ B * (B ^ l.length - 1) := Int.mul_le_mul_of_nonneg_left zo zo
  have h5 : B * (B ^ l.length - 1) = B ^ l.length * B - B := by grind
  omega
theorem rd_nat (l : List Int) (i : Nat) : rd l (i : Int) = l.getD i 0 := by unfold rd; rw [Int.toNat_natCast]
theorem getD_mem (l : List Int) (i : Nat) (h : i < l.length) : l.getD i 0 ∈ l := by
 rw [List.getD_eq_getElem?_getD, List.getElem?_eq_getElem h]; simp
theorem set_last (m : Nat) (z d : Int) (T : List Int) : (List.replicate (m + 1) z ++ T).set m d = List.replicate m z ++ d :: T := by
 rw [List.replicate_succ', List.append_assoc, List.set_append_right _ _ (by simp)]
 simp
theorem getD_out (l : List Int) (i : Nat) (h : l.length ≤ i) : l.getD i 0 = 0 := by rw [List.getD_eq_getElem?_getD, List.getElem?_eq_none h]; rfl
open CR Ieee in
theorem near_lt (b : Bool) (M : Nat) (E : Int) : double.nearest b M E < 18446744073709551616 := by
 have he : ∀ r : Nat, r ≤ 9218868437227405312 → enc b r < 18446744073709551616 := by
  intro r hr
  unfold enc
  split <;> omega
 by_cases h : M = 0
 ·subst h
  rw [near_zero]
  exact he 0 zo
 ·rw [near_eq b M E h]
  exact he _ (Nat.min_le_right _ _)
open CR Ieee in
theorem round_lt (b : Bool) (M : Nat) (E : Int) (more : Bool) : roundT b M E more < 18446744073709551616 := by
 unfold roundT
 split
 ·unfold enc
  split <;> omega
 ·unfold nearS
  split
  ·exact near_lt _ _ _
  ·exact near_lt _ _ _
theorem spec_fromSmall (z : Int) (h0 : -1000 ≤ z) (h1 : z ≤ 1000) : ∃ v, Ev (fun k => spec_FromInt.f k z) v ∧ (0 ≤ v ∧ v < 18446744073709551616) := by
 unfold spec_FromInt.f
 by_cases hz : z < 0
 ·refine ⟨_, ?_, Int.natCast_nonneg _, Int.ofNat_lt.2 (round_lt true z.natAbs 0 false)⟩
  rw [w64 (x := -z) zo zo, wu64, show -z % 18446744073709551616 = ((z.natAbs : Nat) : Int) by omega]
  simp only [if_neg (show ¬ z = -9223372036854775808 by omega), if_pos hz]
  exact Ev.bind (spec_round true z.natAbs zo 0 false) (Ev.now _)
 ·refine ⟨_, ?_, Int.natCast_nonneg _, Int.ofNat_lt.2 (round_lt false z.toNat 0 false)⟩
  rw [wu64 z, show z % 18446744073709551616 = ((z.toNat : Nat) : Int) by omega]
  simp only [if_neg (show ¬ z = -9223372036854775808 by omega), if_neg hz]
  exact Ev.bind (spec_round false z.toNat zo 0 false) (Ev.now _)
theorem u64_range (x : Int) : 0 ≤ IntKind.u64.wrap x ∧ IntKind.u64.wrap x < 18446744073709551616 := by
 rw [wu64]; omega
theorem spec_bits (l : List Int) (i h : Int) (hl : l.length ≤ 140737488351232) (hi : 0 ≤ i) : ∃ v i' h', spec_l03Bits64.f l i h = some (v, i', h') ∧ (0 ≤ v ∧ v < 18446744073709551616) ∧ 0 ≤ i' := by
 obtain ⟨v1, i1, h1, e1, _, p1⟩ := spec_below l i h 4294967296 hl hi zo
 obtain ⟨v2, i2, h2, e2, _, p2⟩ := spec_below l i1 h1 4294967296 hl p1 zo
 refine ⟨IntKind.u64.wrap (IntKind.u64.wrap (IntKind.u64.wrap v1 * 4294967296) + IntKind.u64.wrap v2), i2, h2, ?_, u64_range _, p2⟩
 unfold spec_l03Bits64.f
 rw [e1]
 simp only [Option.bind_some]
 rw [e2]
 rfl
theorem spec_number (l : List Int) (i h : Int) (hl : l.length ≤ 140737488351232) (hi : 0 ≤ i) : ∃ v i' h', Ev (fun k => spec_l03Number.f k l i h) (v, i', h') ∧ (0 ≤ v ∧ v < 18446744073709551616) ∧ 0 ≤ i' := by
 obtain ⟨c, i1, h1, e1, r1, p1⟩ := spec_below l i h 8 hl hi zo
 unfold spec_l03Number.f
 rw [e1]
 simp only [Option.bind_some]
 have hj : ∀ (k : Nat) (z : Bool), spec_l03Number.j0 (k + 1) c z l i1 h1 = if z = true then ((spec_l01Below.f l i1 h1 2000).bind fun bt152 => ((spec_FromInt.f k (wrap64 (bt152.1 - 1000))).bind fun t155 => (some (t155, bt152.2.1, bt152.2.2)))) else (if c = 3 then ((spec_l01Once.f l i1 h1 2).bind fun bt156 => ((spec_l01Below.f l bt156.2.1 bt156.2.2 1000000).bind fun bt159 => ((spec_l01Below.f l bt159.2.1 bt159.2.2 40).bind fun bt162 => ((spec_RoundTo.f k bt156.1 (IntKind.u64.wrap (bt159.1)) (wrap64 (bt162.1 - 30)) false).bind fun t165 => (some (t165, bt162.2.1, bt162.2.2)))))) else (if c = 4 then ((spec_l01Below.f l i1 h1 2048).bind fun bt166 => ((spec_l01Below.f l bt166.2.1 bt166.2.2 4).bind fun bt169 => (some (IntKind.u64.wrap ((IntKind.u64.wrap ((IntKind.u64.wrap (bt166.1)) * 4503599627370496)) + (IntKind.u64.wrap (bt169.1))), bt169.2.1, bt169.2.2)))) else (if c = 5 then ((spec_l01Once.f l i1 h1 2).bind fun bt172 => ((spec_l03Bits64.f l bt172.2.1 bt172.2.2).bind fun bt175 => ((spec_l01Below.f l bt175.2.1 bt175.2.2 120).bind fun bt178 => ((spec_RoundTo.f k bt172.1 (IntKind.u64.wrap (Int.tdiv bt175.1 2048)) (wrap64 (bt178.1 - 80)) false).bind fun t181 => (some (t181, bt178.2.1, bt178.2.2)))))) else ((spec_l03Bits64.f l i1 h1).bind fun bt182 => (some (bt182.1, bt182.2.1, bt182.2.2)))))) := fun _ _ => rfl
 have key : ∀ z : Bool, ∃ v i' h', Ev (fun k => spec_l03Number.j0 k c z l i1 h1) (v, i', h') ∧ (0 ≤ v ∧ v < 18446744073709551616) ∧ 0 ≤ i' := by
  intro z
  by_cases hz : z = true
  ·obtain ⟨v2, i2, h2, e2, r2, p2⟩ := spec_below l i1 h1 2000 hl p1 zo
   obtain ⟨v, hv, r⟩ := spec_fromSmall (v2 - 1000) zo zo
   refine ⟨v, i2, h2, Ev.step (f := fun k => (spec_FromInt.f k (v2 - 1000)).bind fun t => some (t, i2, h2)) (fun k => ?_) (Ev.bind hv (Ev.now _)), r, p2⟩
   rw [hj, if_pos hz, e2]
   simp only [Option.bind_some]
   rw [w64 (x := v2 - 1000) zo zo]
  by_cases h3 : c = 3
  ·obtain ⟨b, i2, h2, e2, p2⟩ := spec_once l i1 h1 2 hl p1 zo
   obtain ⟨v3, i3, h3', e3, r3, p3⟩ := spec_below l i2 h2 1000000 hl p2 zo
   obtain ⟨v4, i4, h4, e4, r4, p4⟩ := spec_below l i3 h3' 40 hl p3 zo
   refine ⟨((roundT b v3.toNat (v4 - 30) false : Nat) : Int), i4, h4, Ev.step (f := fun k => (spec_RoundTo.f k b ((v3.toNat : Nat) : Int) (v4 - 30) false).bind fun t => some (t, i4, h4)) (fun k => ?_) (Ev.bind (spec_round b v3.toNat zo (v4 - 30) false) (Ev.now _)), ⟨Int.natCast_nonneg _, Int.ofNat_lt.2 (round_lt _ _ _ _)⟩, p4⟩
   rw [hj, if_neg hz, if_pos h3, e2]
   simp only [Option.bind_some]
   rw [e3]
   simp only [Option.bind_some]
   rw [e4]
   simp only [Option.bind_some]
   rw [w64 (x := v4 - 30) zo zo, wu64, show v3 % 18446744073709551616 = ((v3.toNat : Nat) : Int) by omega]
  by_cases h4 : c = 4
  ·obtain ⟨v3, i3, h3', e3, r3, p3⟩ := spec_below l i1 h1 2048 hl p1 zo
   obtain ⟨v4, i4, h4', e4, r4, p4⟩ := spec_below l i3 h3' 4 hl p3 zo
   refine ⟨IntKind.u64.wrap (IntKind.u64.wrap (IntKind.u64.wrap v3 * 4503599627370496) + IntKind.u64.wrap v4), i4, h4', Ev.step (fun k => ?_) (Ev.now (_, i4, h4')), u64_range _, p4⟩
   rw [hj, if_neg hz, if_neg h3, if_pos h4, e3]
   simp only [Option.bind_some]
   rw [e4]
   rfl
  by_cases h5 : c = 5
  ·obtain ⟨b, i2, h2, e2, p2⟩ := spec_once l i1 h1 2 hl p1 zo
   obtain ⟨v3, i3, h3', e3, r3, p3⟩ := spec_bits l i2 h2 hl p2
   obtain ⟨v4, i4, h4', e4, r4, p4⟩ := spec_below l i3 h3' 120 hl p3 zo
   refine ⟨((roundT b (v3.toNat / 2048) (v4 - 80) false : Nat) : Int), i4, h4', Ev.step (f := fun k => (spec_RoundTo.f k b ((v3.toNat / 2048 : Nat) : Int) (v4 - 80) false).bind fun t => some (t, i4, h4')) (fun k => ?_) (Ev.bind (spec_round b (v3.toNat / 2048) zo (v4 - 80) false) (Ev.now _)), ⟨Int.natCast_nonneg _, Int.ofNat_lt.2 (round_lt _ _ _ _)⟩, p4⟩
   rw [hj, if_neg hz, if_neg h3, if_neg h4, if_pos h5, e2]
   simp only [Option.bind_some]
   rw [e3]
   simp only [Option.bind_some]
   rw [e4]
   simp only [Option.bind_some]
   rw [w64 (x := v4 - 80) zo zo, tdivN r3.1, wu64, show v3 / 2048 % 18446744073709551616 = ((v3.toNat / 2048 : Nat) : Int) by omega]
  ·obtain ⟨v3, i3, h3', e3, r3, p3⟩ := spec_bits l i1 h1 hl p1
   refine ⟨v3, i3, h3', Ev.step (fun k => ?_) (Ev.now (v3, i3, h3')), r3, p3⟩
   rw [hj, if_neg hz, if_neg h3, if_neg h4, if_neg h5, e3]
   rfl
 by_cases h0 : c = 0
 ·obtain ⟨v2, i2, h2, e2, r2, p2⟩ := spec_below l i1 h1 17 hl p1 zo
  simp only [if_pos h0]
  have hall : ∀ x ∈ ([0, 9223372036854775808, 1, 2, 4503599627370495, 4503599627370496, 4503599627370497, 9218868437227405312, 9218868437227405311, 9218868437227405310, 9221120237041090560, 9221120237041090561, IntKind.u64.wrap (9218868437227405312 + 9223372036854775808), IntKind.u64.wrap (9221120237041090560 + 9223372036854775808), 9218868437227405313, 4607182418800017408, 4607182418800017409] : List Int), 0 ≤ x ∧ x < 18446744073709551616 := by decide +kernel
  refine ⟨_, i2, h2, Ev.bind spec_pow63 (Ev.bind spec_pow63 (Ev.bind spec_pow63 ?_)), hall _ (getD_mem _ v2.toNat ?_), p2⟩
  ·rw [show ((([0, 9223372036854775808, 1, 2, 4503599627370495, 4503599627370496, 4503599627370497, 9218868437227405312, 9218868437227405311, 9218868437227405310, 9221120237041090560, 9221120237041090561, IntKind.u64.wrap (9218868437227405312 + 9223372036854775808), IntKind.u64.wrap (9221120237041090560 + 9223372036854775808), 9218868437227405313, 4607182418800017408, 4607182418800017409] : List Int).length : Nat) : Int) = 17 from rfl, e2]
   simp only [Option.bind_some]
   rw [if_pos r2.1, if_pos r2.2]
   exact Ev.now _
  ·simp only [List.length_cons, List.length_nil]
   omega
 ·simp only [if_neg h0]
  by_cases h2 : c = 1
  ·simp only [if_pos h2]
   exact key _
  ·simp only [if_neg h2]
   exact key _
theorem spec_numbers (l : List Int) (hl : l.length ≤ 140737488351232) : ∃ a b c : Nat, Ev (fun k => spec_DrawNumbers.f k l) ((a : Int), (b : Int), (c : Int)) ∧ a < 18446744073709551616 ∧ b < 18446744073709551616 ∧ c < 18446744073709551616 := by
 obtain ⟨h, e⟩ := spec_new l hl
 obtain ⟨v1, i1, h1, e1, r1, p1⟩ := spec_number l 0 h hl zo
 obtain ⟨v2, i2, h2, e2, r2, p2⟩ := spec_number l i1 h1 hl p1
 obtain ⟨v3, i3, h3, e3, r3, p3⟩ := spec_number l i2 h2 hl p2
 refine ⟨v1.toNat, v2.toNat, v3.toNat, ?_, by omega, by omega, by omega⟩
 rw [show ((v1.toNat : Nat) : Int) = v1 by omega, show ((v2.toNat : Nat) : Int) = v2 by omega, show ((v3.toNat : Nat) : Int) = v3 by omega]
 unfold spec_DrawNumbers.f
 exact Ev.bind e (Ev.bind e1 (Ev.bind e2 (Ev.bind e3 (Ev.now _))))
def partsN (x : Nat) : Int × Bool × Int × Int :=
 if 9218868437227405312 < x % 9223372036854775808 then (1, false, 0, 0)
 else if x % 9223372036854775808 = 9218868437227405312 then (2, decide (9223372036854775808 ≤ x), 0, 0)
 else if x % 9223372036854775808 = 0 then (3, decide (9223372036854775808 ≤ x), 0, 0)
 else if x % 9223372036854775808 < 4503599627370496 then (4, decide (9223372036854775808 ≤ x), ((x % 4503599627370496 : Nat) : Int), -1074)
 else (4, decide (9223372036854775808 ≤ x), ((x % 4503599627370496 + 4503599627370496 : Nat) : Int), ((x / 4503599627370496 % 2048 : Nat) : Int) - 1075)
def nanB (x : Nat) : Bool := decide (9218868437227405312 < x % 9223372036854775808)
theorem spec_parts_j1 (k : Nat) (e f : Int) (b z : Bool) : spec_PartsOfNumber.j1 (k + 1) e f z 0 b 0 0 = if z = true then some (3, b, 0, 0) else if e = 0 then some (4, b, f, (-1074)) else some (4, b, IntKind.u64.wrap (f + 4503599627370496), wrap64 (e - 1075)) := rfl
theorem spec_parts_j0 (k : Nat) (e f : Int) (b z : Bool) : spec_PartsOfNumber.j0 (k + 1) e f z 0 b 0 0 = if z = true then some (1, false, 0, 0) else if e = 2047 then some (2, b, 0, 0) else if e = 0 then spec_PartsOfNumber.j1 k e f (f == 0) 0 b 0 0 else spec_PartsOfNumber.j1 k e f false 0 b 0 0 := rfl
theorem spec_parts (x : Nat) (hx : x < 18446744073709551616) : Ev (fun k => spec_PartsOfNumber.f k (x : Int)) (partsN x) := by
 unfold spec_PartsOfNumber.f
 refine Ev.bind spec_pow63 ?_
 simp only [if_neg (show ¬ (9223372036854775808 : Int) = 0 by omega)]
 have e1 : wrap64 (Int.tmod (IntKind.u64.wrap (Int.tdiv (x : Int) 4503599627370496)) 2048) = ((x / 4503599627370496 % 2048 : Nat) : Int) := by
  rw [wu64, tdivN (Int.natCast_nonneg x), tmodN zo, w64 zo zo]; omega
 have e2 : Int.tmod (x : Int) 4503599627370496 = ((x % 4503599627370496 : Nat) : Int) := by rw [tmodN (Int.natCast_nonneg x)]; omega
 have e3 : ((IntKind.u64.wrap (Int.tdiv (x : Int) 9223372036854775808)) == 1) = decide (9223372036854775808 ≤ x) := by
  rw [wu64, tdivN (Int.natCast_nonneg x), Bool.eq_iff_iff]; simp; omega
 rw [e1, e2, e3]
 generalize hb : decide (9223372036854775808 ≤ x) = b
 have hp : partsN x = if 9218868437227405312 < x % 9223372036854775808 then (1, false, 0, 0)
  else if x % 9223372036854775808 = 9218868437227405312 then (2, b, 0, 0)
  else if x % 9223372036854775808 = 0 then (3, b, 0, 0)
  else if x % 9223372036854775808 < 4503599627370496 then (4, b, ((x % 4503599627370496 : Nat) : Int), -1074)
  else (4, b, ((x % 4503599627370496 + 4503599627370496 : Nat) : Int), ((x / 4503599627370496 % 2048 : Nat) : Int) - 1075) := by unfold partsN; rw [hb]
 rw [hp]
 by_cases h1 : x / 4503599627370496 % 2048 = 2047
 ·simp only [if_pos (show ((x / 4503599627370496 % 2048 : Nat) : Int) = 2047 by omega)]
  by_cases h2 : x % 4503599627370496 = 0
  ·rw [if_neg zo, if_pos zo]
   exact Ev.step (f := fun _ => some (2, b, 0, 0)) (fun k => by rw [spec_parts_j0, if_neg (by simp [h2]), if_pos zo]) (Ev.now _)
  ·rw [if_pos zo]
   exact Ev.step (f := fun _ => some (1, false, 0, 0)) (fun k => by rw [spec_parts_j0, if_pos (by simp; omega)]) (Ev.now _)
 ·simp only [if_neg (show ¬ ((x / 4503599627370496 % 2048 : Nat) : Int) = 2047 by omega)]
  rw [if_neg zo, if_neg zo]
  by_cases h2 : x / 4503599627370496 % 2048 = 0
  ·refine Ev.step (f := fun k => spec_PartsOfNumber.j1 k ((x / 4503599627370496 % 2048 : Nat) : Int) ((x % 4503599627370496 : Nat) : Int) (((x % 4503599627370496 : Nat) : Int) == 0) 0 b 0 0) (fun k => by rw [spec_parts_j0, if_neg (by simp), if_neg zo, if_pos zo]) ?_
   by_cases h3 : x % 4503599627370496 = 0
   ·rw [if_pos zo]
    exact Ev.step (f := fun _ => some (3, b, 0, 0)) (fun k => by rw [spec_parts_j1, if_pos (by simp [h3])]) (Ev.now _)
   ·rw [if_neg zo, if_pos zo]
    exact Ev.step (f := fun _ => some (4, b, ((x % 4503599627370496 : Nat) : Int), -1074)) (fun k => by rw [spec_parts_j1, if_neg (by simp; omega), if_pos zo]) (Ev.now _)
  ·refine Ev.step (f := fun k => spec_PartsOfNumber.j1 k ((x / 4503599627370496 % 2048 : Nat) : Int) ((x % 4503599627370496 : Nat) : Int) false 0 b 0 0) (fun k => by rw [spec_parts_j0, if_neg (by simp), if_neg zo, if_neg zo]) ?_
   rw [if_neg zo, if_neg zo]
   refine Ev.step (f := fun _ => some (4, b, ((x % 4503599627370496 + 4503599627370496 : Nat) : Int), ((x / 4503599627370496 % 2048 : Nat) : Int) - 1075)) (fun k => ?_) (Ev.now _)
   rw [spec_parts_j1, if_neg (by simp), if_neg zo, wu64, w64 zo zo, show (((x % 4503599627370496 : Nat) : Int) + 4503599627370496) % 18446744073709551616 = ((x % 4503599627370496 + 4503599627370496 : Nat) : Int) by omega]
def partsR (d : Ieee.Datum) : Int × Bool × Int × Int := match d with | .nan _ _ => (1, false, 0, 0) | .infinity b => (2, b, 0, 0) | .number b m e => if m = 0 then (3, b, 0, 0) else (4, b, (m : Int), e)
open CG in
theorem parts_read (x : Nat) (hx : x < 18446744073709551616) : partsN x = partsR (Ieee.double.read x) := by
 rw [read_def x hx]
 unfold partsN CG.sgn
 by_cases h1 : 9218868437227405312 < x % 9223372036854775808
 ·rw [if_pos h1, if_neg zo, if_neg zo, if_neg zo]; rfl
 ·rw [if_neg h1]
  by_cases h2 : x % 9223372036854775808 = 9218868437227405312
  ·rw [if_pos h2, if_neg zo, if_neg zo, if_pos h2]; rfl
  ·rw [if_neg h2]
   by_cases h3 : x % 9223372036854775808 = 0
   ·rw [if_pos h3, if_pos zo, h3]; rfl
   ·rw [if_neg h3]
    by_cases h4 : x % 9223372036854775808 < 4503599627370496
    ·rw [if_pos h4, if_pos h4]
     unfold partsR
     simp only [if_neg h3]
     rw [show x % 9223372036854775808 = x % 4503599627370496 by omega]
    ·rw [if_neg h4, if_neg h4, if_pos zo]
     unfold partsR
     simp only [if_neg (show ¬ 4503599627370496 + x % 4503599627370496 = 0 by omega)]
     rw [Nat.add_comm 4503599627370496]
theorem parts_is {x : Nat} {d : Ieee.Datum} (hx : x < 18446744073709551616) (h : Ieee.double.read x = d) : Ev (fun k => spec_PartsOfNumber.f k (x : Int)) (partsR d) := by
 have := spec_parts x hx
 rw [parts_read x hx, h] at this
 exact this
theorem parts_some {x m : Nat} {s : Bool} {i : Int} (hx : x < 18446744073709551616) (h : Ieee.double.read x = .number s m i) (hm : m ≠ 0) : Ev (fun k => spec_PartsOfNumber.f k (x : Int)) (4, s, (m : Int), i) := by
 have := parts_is hx h
 unfold partsR at this
 simp only [if_neg hm] at this
 exact this
theorem impl_nan (x : Nat) (hx : x < 18446744073709551616) : impl_isNaN.f (x : Int) = some (nanB x) := by
 unfold impl_isNaN.f nanB
 rw [and63 x hx]
 congr 1
 rw [decide_eq_decide]; omega
theorem impl_parts (x : Nat) (hx : x < 18446744073709551616) : Ev (fun k => impl_PartsOfNumber.f k (x : Int)) (partsN x) := by
 unfold impl_PartsOfNumber.f
 rw [impl_nan x hx]
 simp only [Option.bind_some]
 have e1 : wrap64 (Go.bits .and .u64 ((x : Int) / 4503599627370496) 2047) = ((x / 4503599627370496 % 2048 : Nat) : Int) := by
  have h1 := and_u64 (x / 4503599627370496) 2047 zo zo
  rw [show (x / 4503599627370496) &&& 2047 = x / 4503599627370496 % 2048 from mask _ 11] at h1
  rw [show (x : Int) / 4503599627370496 = ((x / 4503599627370496 : Nat) : Int) by omega]
  have h2 : Go.bits .and .u64 (((x / 4503599627370496 : Nat) : Int)) 2047 = ((x / 4503599627370496 % 2048 : Nat) : Int) := h1
  rw [h2, w64 zo zo]
 have e2 : Go.bits .and .u64 (x : Int) 4503599627370495 = ((x % 4503599627370496 : Nat) : Int) := by
  have h1 := and_u64 x 4503599627370495 hx zo
  rw [show x &&& 4503599627370495 = x % 4503599627370496 from mask _ 52] at h1
  exact h1
 have e3 : (((x : Int) / 9223372036854775808) == 1) = decide (9223372036854775808 ≤ x) := by rw [Bool.eq_iff_iff]; simp; omega
 rw [e1, e2, e3]
 generalize hb : decide (9223372036854775808 ≤ x) = b
 have hp : partsN x = if 9218868437227405312 < x % 9223372036854775808 then (1, false, 0, 0)
  else if x % 9223372036854775808 = 9218868437227405312 then (2, b, 0, 0)
  else if x % 9223372036854775808 = 0 then (3, b, 0, 0)
  else if x % 9223372036854775808 < 4503599627370496 then (4, b, ((x % 4503599627370496 : Nat) : Int), -1074)
  else (4, b, ((x % 4503599627370496 + 4503599627370496 : Nat) : Int), ((x / 4503599627370496 % 2048 : Nat) : Int) - 1075) := by unfold partsN; rw [hb]
 rw [hp]
 have hj : ∀ (k : Nat) (f e : Int) (z : Bool), impl_PartsOfNumber.j0 (k + 1) b f e z = if z = true then (some (3, b, 0, 0)) else (if e = 0 then (some (4, b, f, (-1074))) else (some (4, b, Go.bits .or .u64 f 4503599627370496, wrap64 (e - 1075)))) := fun _ _ _ _ => rfl
 by_cases h0 : 9218868437227405312 < x % 9223372036854775808
 ·have : nanB x = true := decide_eq_true h0
  rw [if_pos h0]
  simp only [this, if_true]
  exact Ev.now _
 ·have : nanB x = false := decide_eq_false h0
  rw [if_neg h0]
  simp only [this, Bool.false_eq_true, if_false]
  by_cases h1 : x / 4503599627370496 % 2048 = 2047
  ·simp only [if_pos (show ((x / 4503599627370496 % 2048 : Nat) : Int) = 2047 by omega)]
   rw [if_pos zo]
   exact Ev.now _
  ·simp only [if_neg (show ¬ ((x / 4503599627370496 % 2048 : Nat) : Int) = 2047 by omega)]
   rw [if_neg zo]
   by_cases h2 : x / 4503599627370496 % 2048 = 0
   ·simp only [if_pos (show ((x / 4503599627370496 % 2048 : Nat) : Int) = 0 by omega)]
    by_cases h3 : x % 4503599627370496 = 0
    ·rw [if_pos zo]
     exact Ev.step (f := fun _ => some (3, b, 0, 0)) (fun k => by rw [hj, if_pos (by simp [h3])]) (Ev.now _)
    ·rw [if_neg zo, if_pos zo]
     exact Ev.step (f := fun _ => some (4, b, ((x % 4503599627370496 : Nat) : Int), -1074)) (fun k => by rw [hj, if_neg (by simp; omega), if_pos zo]) (Ev.now _)
   ·simp only [if_neg (show ¬ ((x / 4503599627370496 % 2048 : Nat) : Int) = 0 by omega)]
    rw [if_neg zo, if_neg zo]
    refine Ev.step (f := fun _ => some (4, b, ((x % 4503599627370496 + 4503599627370496 : Nat) : Int), ((x / 4503599627370496 % 2048 : Nat) : Int) - 1075)) (fun k => ?_) (Ev.now _)
    have e4 : Go.bits .or .u64 ((x % 4503599627370496 : Nat) : Int) 4503599627370496 = ((x % 4503599627370496 + 4503599627370496 : Nat) : Int) := by
     have h4 := or_u64 (x % 4503599627370496) 4503599627370496 zo zo
     have h5 := join 1 (x % 4503599627370496) 52 zo
     rw [Nat.or_comm, show (2 ^ 52 * 1 : Nat) = 4503599627370496 from rfl] at h5
     rw [h5, Nat.add_comm] at h4
     exact h4
    rw [hj, if_neg (by simp), if_neg zo, e4, w64 zo zo]
theorem ev_const {α : Type} {x : Option α} {r : α} (h : x = some r) : Ev (fun _ => x) r := by rw [h]; exact Ev.now r
theorem ev_if {α : Type} {c : Prop} [Decidable c] {f g : Nat → Option α} {r : α} (h : c) (k : Ev f r) : Ev (fun n => if c then f n else g n) r := Ev.congr (fun _ => if_pos h) k
theorem ev_else {α : Type} {c : Prop} [Decidable c] {f g : Nat → Option α} {r : α} (h : ¬ c) (k : Ev g r) : Ev (fun n => if c then f n else g n) r := Ev.congr (fun _ => if_neg h) k
theorem ev_same {α : Type} {g : Nat → Option α} {a b : α} (ha : Ev g a) (hb : Ev g b) : a = b := by
 obtain ⟨i, hi⟩ := ha
 obtain ⟨j, hj⟩ := hb
 exact Option.some.inj ((hi (i + j) zo).symm.trans (hj (i + j) zo))
theorem short_given {x M : Nat} {s : Bool} {e : Int} (hx : x < 18446744073709551616) (hr : Ieee.double.read x = .number s M e) (hM : M ≠ 0) : impl_scientific.f (x : Int) (-1) = some (decN (SF.bestU M e), SF.bestF M e) := by
 unfold impl_scientific.f G.impl_scientific
 rw [if_pos ⟨by omega, by omega, rfl⟩, Int.toNat_natCast]
 unfold G.shortF
 rw [hr]
 exact if_neg hM
theorem impl_short_bad {x : Nat} (hx : x < 18446744073709551616) {d : Ieee.Datum} (hr : Ieee.double.read x = d) (h4 : (partsR d).1 ≠ 4) : Ev (fun k => impl_Shortest.f k (x : Int)) ((⟨#[]⟩ : ByteArray), (0 : Int)) := by
 have he := ev_same (parts_is hx hr) (spec_parts x hx)
 unfold impl_Shortest.f
 refine Ev.bind (impl_parts x hx) (ev_else ?_ (Ev.now _))
 rw [← he]; exact h4
theorem impl_short {x M : Nat} {s : Bool} {e : Int} (hx : x < 18446744073709551616) (hr : Ieee.double.read x = .number s M e) (hM : M ≠ 0) : Ev (fun k => impl_Shortest.f k (x : Int)) (decN (SF.bestU M e), SF.bestF M e) := by
 have he := ev_same (parts_is hx hr) (spec_parts x hx)
 have hs := short_given hx hr hM
 unfold impl_Shortest.f
 refine Ev.bind (impl_parts x hx) (ev_if ?_ (Ev.bind (ev_const hs) (Ev.now _)))
 rw [← he]
 simp [partsR, hM]
def vM : List Int → Int
 | [] => 0
 | c :: T => (c - 48) * 10 ^ T.length + vM T
def dgI (T : List Int) : Prop := ∀ c ∈ T, 48 ≤ c ∧ c ≤ 57
theorem valD_foldl (l : List UInt8) : ∀ n : Nat, List.foldl (fun n (b : UInt8) => 10 * n + (b.toNat - 48)) n l = n * 10 ^ l.length + valD l := by
 induction l with
 | nil => intro n; simp [valD]
 | cons b l ih =>
  intro n
  unfold valD
  rw [List.foldl_cons, List.foldl_cons, ih, ih, List.length_cons, Nat.pow_succ, Nat.mul_zero, Nat.zero_add]
  rw [Nat.add_mul, Nat.mul_comm 10 n, Nat.mul_assoc n 10, Nat.mul_comm 10 (10 ^ l.length)]
  omega
theorem valD_cons (b : UInt8) (l : List UInt8) : valD (b :: l) = (b.toNat - 48) * 10 ^ l.length + valD l := by
 have := valD_foldl l (10 * 0 + (b.toNat - 48))
 unfold valD
 rw [List.foldl_cons, this, Nat.mul_zero, Nat.zero_add]; rfl
theorem byteOf_toNat (c : Int) (h : 0 ≤ c ∧ c < 256) : ((byteOf c).toNat : Int) = c := by
 unfold byteOf
 have : (UInt8.ofNat c.toNat).toNat = c.toNat := by simp; omega
 rw [this]; omega
theorem vM_valD (T : List Int) (h : dgI T) : ((valD (T.map byteOf) : Nat) : Int) = vM T := by
 induction T with
 | nil => rfl
 | cons c T ih =>
  have hc := h c (by simp)
  have hb := byteOf_toNat c zo
  have := ih (fun d hd => h d (by simp [hd]))
  rw [List.map_cons, valD_cons, List.length_map]
  unfold vM
  rw [← this, Int.natCast_add, Int.natCast_mul, Int.natCast_pow]
  rw [show (((byteOf c).toNat - 48 : Nat) : Int) = c - 48 by omega]
  rfl
theorem map_dg (T : List Int) (h : dgI T) : ∀ b ∈ T.map byteOf, isDg b := by
 intro b hb
 obtain ⟨c, hc, rfl⟩ := List.mem_map.1 hb
 have h1 := h c hc
 have h2 := byteOf_toNat c zo
 unfold isDg; omega
theorem spec_trim_l0 (s : ByteArray) (hs : s.size ≤ 100000) (hd : ∀ b ∈ s.data.toList, isDg b) : ∀ (d i : Nat), s.size - i = d → i + 1 ≤ s.size → valD (s.data.toList.drop i) = valD s.data.toList →
  Ev (fun k => spec_l06Trim.l0 k s (i : Int)) (decN (valD s.data.toList)) := by
 have hl : ∀ (k i : Nat), spec_l06Trim.l0 (k + 1) s (i : Int) = if (wrap64 ((i : Int) + 1)) < (s.size : Int) then (if 0 ≤ (i : Int) then (if (i : Int) < (s.size : Int) then (if (bt s i) = 48 then (spec_l06Trim.l0 k s (wrap64 ((i : Int) + 1))) else (if (s.size : Int) = 0 then (some (⟨#[48]⟩ : ByteArray)) else (if (i : Int) ≤ (s.size : Int) then (some (s.extract (i : Int).toNat s.size)) else (none)))) else (none)) else (none)) else (if (s.size : Int) = 0 then (some (⟨#[48]⟩ : ByteArray)) else (if 0 ≤ (i : Int) then (if (i : Int) ≤ (s.size : Int) then (some (s.extract (i : Int).toNat s.size)) else (none)) else (none))) := fun _ _ => rfl
 have hend : ∀ i : Nat, i + 1 ≤ s.size → valD (s.data.toList.drop i) = valD s.data.toList → (i + 1 < s.size → bt s i ≠ 48) → s.extract i s.size = decN (valD s.data.toList) := by
  intro i hi hv hb
  have hdat : (s.extract i s.size).data.toList = s.data.toList.drop i := by
   simp
   exact List.take_of_length_le (by rw [List.length_drop, size_data]; omega)
  have hsz : (s.extract i s.size).size = s.size - i := by simp
  rw [← hv, ← hdat]
  refine (decN_of (s.extract i s.size) ?_ zo ?_).symm
  ·rw [hdat]; intro b hb2; exact hd b (List.mem_of_mem_drop hb2)
  ·intro ⟨h1, h2⟩
   have h3 := bt_list (s.extract i s.size) 0 zo
   have h4 := bt_list s i zo
   have h5 : (s.extract i s.size).data.toList[0]'(by rw [size_data]; omega) = s.data.toList[i]'(by rw [size_data]; omega) := by
    simp only [hdat]
    rw [List.getElem_drop]; rfl
   rw [h5, ← h4] at h3
   have h6 : bt (s.extract i s.size) ((0 : Nat) : Int) = 48 := h1
   rw [h6] at h3
   exact hb zo h3.symm
 intro d
 induction d with
 | zero => intro i hd2 hi; omega
 | succ d ih =>
  intro i hd2 hi hv
  by_cases h1 : i + 1 < s.size
  ·by_cases hb : bt s i = 48
   ·have hdr := List.drop_eq_getElem_cons (l := s.data.toList) (i := i) (by rw [size_data]; omega)
    have hbi := bt_list s i zo
    have hv2 : valD (s.data.toList.drop (i + 1)) = valD s.data.toList := by
     rw [← hv, hdr, valD_cons]
     have : (s.data.toList[i]'(by rw [size_data]; omega)).toNat = 48 := by omega
     rw [this]; simp
    exact Ev.step (fun k => by rw [hl, w64s zo, if_pos zo, if_pos zo, if_pos zo, if_pos hb]) (ih (i + 1) zo zo hv2)
   ·rw [← hend i hi hv (fun _ => hb)]
    exact Ev.step (f := fun _ => some (s.extract i s.size)) (fun k => by rw [hl, w64s zo, if_pos zo, if_pos zo, if_pos zo, if_neg hb, if_neg zo, if_pos zo, Int.toNat_natCast]) (Ev.now _)
  ·rw [← hend i hi hv (fun h => absurd h h1)]
   exact Ev.step (f := fun _ => some (s.extract i s.size)) (fun k => by rw [hl, w64s zo, if_neg zo, if_neg zo, if_pos zo, if_pos zo, Int.toNat_natCast]) (Ev.now _)
theorem spec_trim (s : ByteArray) (hs : s.size ≤ 100000) (hd : ∀ b ∈ s.data.toList, isDg b) : Ev (fun k => spec_l06Trim.f k s) (decN (valD s.data.toList)) := by
 unfold spec_l06Trim.f
 by_cases h0 : s.size = 0
 ·have hnil : s.data.toList = [] := List.eq_nil_of_length_eq_zero (by rw [size_data]; exact h0)
  rw [hnil]
  exact Ev.step (f := fun _ => some (⟨#[48]⟩ : ByteArray)) (fun k => by simp only [spec_l06Trim.l0]; rw [w64 zo zo, if_neg zo, if_pos zo]) (Ev.now _)
 ·exact spec_trim_l0 s hs hd s.size 0 zo zo (by simp)
def E9 : Int := 1000000000
theorem e9 (i : Nat) : E9 ^ i = 10 ^ (9 * i) := by
 have : E9 = 10 ^ 9 := rfl
 rw [this, ← Int.pow_mul]
theorem spec_text_l1 (L : List Int) (hL : L.length ≤ 10000) (i : Nat) (hi : i < L.length) (r : ByteArray) : ∀ (d k : Nat) (x : Int) (T : List Int), 9 - k = d → k ≤ 9 → T.length = 9 * i + k → dgI T → 0 ≤ x → x < 10 ^ (9 - k) →
  (∀ T' : List Int, T'.length = 9 * (i + 1) → dgI T' → vM T' = vM T + 10 ^ (9 * i + k) * x → Ev (fun n => spec_l06Text.l0 n L (List.replicate (9 * L.length - 9 * (i + 1)) 0 ++ T') ((i + 1 : Nat) : Int)) r) →
  Ev (fun n => spec_l06Text.l1 n L (List.replicate (9 * L.length - (9 * i + k)) 0 ++ T) (i : Int) x (k : Int)) r := by
 intro d
 induction d with
 | zero =>
  intro k x T hd hk hT hT2 hx0 hx1 hc
  obtain rfl : k = 9 := by omega
  have hx : x = 0 := by
   have : (10 : Int) ^ (9 - 9) = 1 := rfl
   omega
  subst hx
  refine Ev.step (fun n => ?_) (hc T zo hT2 zo)
  simp only [spec_l06Text.l1]
  rw [if_neg zo, w64s zo, show 9 * i + 9 = 9 * (i + 1) by omega]
 | succ d ih =>
  intro k x T hd hk hT hT2 hx0 hx1 hc
  have hpw : (10 : Int) ^ (9 - k) = 10 * 10 ^ (9 - (k + 1)) := by
   rw [show 9 - k = (9 - (k + 1)) + 1 by omega, Int.pow_succ, Int.mul_comm]
  have hx9 : x < 1000000000 := by
   have h1 : (10 : Int) ^ (9 - k) ≤ 10 ^ 9 := by
    rw [show (10 : Int) ^ (9 - k) = ((10 ^ (9 - k) : Nat) : Int) by rw [Int.natCast_pow]; rfl]
    have := Nat.pow_le_pow_right (n := 10) zo (show 9 - k ≤ 9 by omega)
    have h2 : (10 : Int) ^ 9 = 1000000000 := rfl
    omega
   have h2 : (10 : Int) ^ 9 = 1000000000 := rfl
   omega
  have h' := ih (k + 1) (x / 10) ((48 + x % 10) :: T) zo zo (by simp; omega) (by
   intro c hcm
   rcases List.mem_cons.1 hcm with e | e
   ·omega
   ·exact hT2 c e) zo (by
   rw [hpw] at hx1
   generalize (10 : Int) ^ (9 - (k + 1)) = q at *
   omega) (by
   intro T' h1 h2 h3
   refine hc T' h1 h2 ?_
   rw [h3]
   simp only [vM]
   rw [hT, show 9 * i + (k + 1) = (9 * i + k) + 1 by omega, Int.pow_succ]
   generalize (10 : Int) ^ (9 * i + k) = q
   have : x = 10 * (x / 10) + x % 10 := by omega
   generalize x / 10 = u at *
   generalize x % 10 = v at *
   subst this
   grind)
  refine Ev.step (fun n => ?_) h'
  have e1 : wrap64 (wrap64 (wrap64 (9 * wrap64 ((L.length : Int) - (i : Int))) - 1) - (k : Int)) = ((9 * L.length - (9 * i + (k + 1)) : Nat) : Int) := by
   rw [w64 (x := (L.length : Int) - (i : Int)) zo zo, w64 (x := 9 * ((L.length : Int) - (i : Int))) zo zo, w64 (x := 9 * ((L.length : Int) - (i : Int)) - 1) zo zo, w64 zo zo]
   omega
  simp only [spec_l06Text.l1]
  rw [if_pos zo, e1, if_pos zo, if_pos (by simp; omega), tmodN hx0, tdivN hx0, w64 (x := x / 10) zo zo, w64 (x := 48 + x % 10) zo zo, show (48 + x % 10) % 256 = 48 + x % 10 by omega, w64s zo, Int.toNat_natCast,
   show 9 * L.length - (9 * i + k) = (9 * L.length - (9 * i + (k + 1))) + 1 by omega, set_last]
theorem spec_text_l0 (L : List Int) (hL : L.length ≤ 10000) (h9 : ∀ x ∈ L, 0 ≤ x ∧ x < E9) : ∀ (d i : Nat) (T : List Int), L.length - i = d → i ≤ L.length → T.length = 9 * i → dgI T → vM T = valI E9 (L.take i) →
  Ev (fun n => spec_l06Text.l0 n L (List.replicate (9 * L.length - 9 * i) 0 ++ T) (i : Int)) (decN (valI E9 L).toNat) := by
 intro d
 induction d with
 | zero =>
  intro i T hd hi hT hT2 hv
  obtain rfl : i = L.length := by omega
  rw [List.take_of_length_le zo] at hv
  have hz : 9 * L.length - 9 * L.length = 0 := by omega
  have hdg := map_dg T hT2
  rw [← str_data T] at hdg
  have htr := spec_trim (strOfNums T) (by rw [str_size]; omega) hdg
  have hvd := vM_valD T hT2
  rw [str_data, show valD (T.map byteOf) = (valI E9 L).toNat by omega] at htr
  refine Ev.step (fun n => ?_) (Ev.bind htr (Ev.now _))
  simp only [spec_l06Text.l0]
  rw [if_neg zo, hz, List.replicate_zero, List.nil_append]
 | succ d ih =>
  intro i T hd hi hT hT2 hv
  have hx := h9 _ (getD_mem L i zo)
  have h10 : (10 : Int) ^ (9 - 0) = E9 := rfl
  have h1 := spec_text_l1 L hL i zo (decN (valI E9 L).toNat) 9 0 (L.getD i 0) T rfl zo zo hT2 hx.1 (by rw [h10]; exact hx.2) (by
   intro T' h2 h3 h4
   refine ih (i + 1) T' zo zo h2 h3 ?_
   rw [h4, hv, valI_take_succ E9 L i zo, e9]
   rfl)
  refine Ev.step (fun n => ?_) h1
  simp only [spec_l06Text.l0]
  rw [if_pos zo, if_pos zo, rd_nat]
  rfl
theorem spec_text (L : List Int) (hL : L.length ≤ 10000) (h9 : ∀ x ∈ L, 0 ≤ x ∧ x < E9) : Ev (fun n => spec_l06Text.f n L) (decN (valI E9 L).toNat) := by
 have h := spec_text_l0 L hL h9 L.length 0 [] zo zo rfl (by intro c hc; simp at hc) (by simp [vM, valI])
 unfold spec_l06Text.f
 rw [w64 (x := 9 * (L.length : Int)) zo zo, show 9 * (L.length : Int) = ((9 * L.length : Nat) : Int) by omega, Int.toNat_natCast]
 simp only [if_pos (show (0 : Int) ≤ ((9 * L.length : Nat) : Int) by omega), if_pos (show 9 * L.length ≤ 281474976710656 by omega)]
 simpa using h
theorem spec_at (l : List Int) (i : Nat) : spec_l06At.f l (i : Int) = some (l.getD i 0) := by
 unfold spec_l06At.f
 by_cases h : i < l.length
 ·rw [if_neg zo, if_pos zo, if_pos zo, rd_nat]
 ·rw [if_pos zo, getD_out l i zo]
theorem valI_take_succ' (B : Int) (l : List Int) (i : Nat) : valI B (l.take (i + 1)) = valI B (l.take i) + B ^ i * l.getD i 0 := by
 by_cases h : i < l.length
 ·exact valI_take_succ B l i h
 ·rw [getD_out l i zo, List.take_of_length_le zo, List.take_of_length_le zo]
  simp
theorem getD_range (B : Int) (hB : 0 < B) (l : List Int) (h : ∀ x ∈ l, 0 ≤ x ∧ x < B) (i : Nat) : 0 ≤ l.getD i 0 ∧ l.getD i 0 < B := by
 by_cases hi : i < l.length
 ·exact h _ (getD_mem l i hi)
 ·rw [getD_out l i zo]; omega
theorem spec_in (a b c : Int) : spec_l01In.f a b c = some (decide (b ≤ a ∧ a ≤ c)) := by
 unfold spec_l01In.f
 by_cases h : a ≥ b
 ·rw [if_pos h]; simp; omega
 ·rw [if_neg h]; simp; omega
theorem spec_fits (v : Nat) : spec_l06Fits.f (decN v) = some (fitsT v) := by
 unfold spec_l06Fits.f fitsT
 by_cases h : (decN v).size ≤ 800
 ·rw [if_neg zo, if_pos h]
 ·rw [if_pos zo, if_neg h]
theorem decN_far (v : Nat) (h : 10 ≤ v) : (decN v).data.toList = (decN (v / 10)).data.toList ++ [UInt8.ofNat (48 + v % 10)] := by
 rw [decN_data, decN_data, if_neg zo, if_neg zo, dgL_pos v zo]
theorem decN_ext {a b : ByteArray} (h : a.data.toList = b.data.toList) : a = b := by
 cases a; cases b
 congr 1
 exact Array.toList_inj.1 h
theorem decN_cut (v : Nat) (h : 10 ≤ v) : (decN v).extract 0 ((decN v).size - 1) = decN (v / 10) := by
 apply decN_ext
 have hd := decN_far v h
 have hl : (decN (v / 10)).data.toList.length = (decN v).size - 1 := by
  have := congrArg List.length hd
  rw [List.length_append, size_data] at this
  simp at this
  rw [size_data]
  omega
 rw [ByteArray.data_extract, Array.toList_extract, List.extract_eq_take_drop, List.drop_zero, Nat.sub_zero, hd, List.take_left' hl]
def ok32 (l : List Int) : Prop := ∀ x ∈ l, 0 ≤ x ∧ x < (4294967296 : Int)
theorem ok32_nil : ok32 [] := fun _ h => by cases h
theorem ok32_getD {l : List Int} (h : ok32 l) (i : Nat) : 0 ≤ l.getD i 0 ∧ l.getD i 0 < (4294967296 : Int) := by
 by_cases hi : i < l.length
 ·exact h _ (getD_mem l i hi)
 ·rw [getD_out _ _ zo]; decide
theorem ok32_snoc {l : List Int} {x : Int} (h : ok32 l) (h0 : 0 ≤ x) (h1 : x < (4294967296 : Int)) : ok32 (l ++ [x]) := by
 intro y hy
 rcases List.mem_append.1 hy with e | e
 ·exact h y e
 ·rw [List.mem_singleton.1 e]; exact ⟨h0, h1⟩
theorem ok32_take {l : List Int} (h : ok32 l) (n : Nat) : ok32 (l.take n) := fun x hx => h x (List.mem_of_mem_take hx)
theorem ok32_drop {l : List Int} (h : ok32 l) (n : Nat) : ok32 (l.drop n) := fun x hx => h x (List.mem_of_mem_drop hx)
theorem val32 {l : List Int} (h : ok32 l) : 0 ≤ valI (4294967296 : Int) l ∧ valI (4294967296 : Int) l < (4294967296 : Int) ^ l.length := valI_range (4294967296 : Int) (by decide) l h
theorem valI_snoc (B : Int) (l : List Int) (x : Int) : valI B (l ++ [x]) = valI B l + B ^ l.length * x := by rw [valI_append]; simp [valI]
theorem valI_drop (B : Int) (l : List Int) (i : Nat) (h : i < l.length) : valI B (l.drop i) = l.getD i 0 + B * valI B (l.drop (i + 1)) := by
 rw [List.drop_eq_getElem_cons h]; simp [valI, List.getD_eq_getElem?_getD, List.getElem?_eq_getElem h]
theorem b32_pos (n : Nat) : (0 : Int) < (4294967296 : Int) ^ n := Int.pow_pos (by decide)
def tl (l : List Int) : Nat → Nat
 | 0 => 0
 | n + 1 => if l.getD n 0 = 0 then tl l n else n + 1
theorem tl_le (l : List Int) : ∀ n, tl l n ≤ n
  | 0 => Nat.le_refl _
  | n + 1 => by
    unfold tl
    split
    · exact Nat.le_succ_of_le (tl_le l n)
    · exact Nat.le_refl _
theorem tl_top (l : List Int) : ∀ n, tl l n ≠ 0 → l.getD (tl l n - 1) 0 ≠ 0
  | 0 => fun h => absurd rfl h
  | n + 1 => by
    unfold tl
    split
    · exact tl_top l n
    · rename_i h; intro _; simpa using h
theorem tl_val (l : List Int) : ∀ n, n ≤ l.length → valI (4294967296 : Int) (l.take n) = valI (4294967296 : Int) (l.take (tl l n))
  | 0 => fun _ => rfl
  | n + 1 => fun hn => by
    unfold tl
    split
    · rename_i h
      rw [valI_take_succ (4294967296 : Int) l n zo, h, Int.mul_zero, Int.add_zero]
      exact tl_val l n zo
    · rfl
def tlen (l : List Int) : Nat := tl l l.length
theorem tlen_le (l : List Int) : tlen l ≤ l.length := tl_le l _
theorem tlen_val (l : List Int) : valI (4294967296 : Int) l = valI (4294967296 : Int) (l.take (tlen l)) := by
 have := tl_val l l.length (Nat.le_refl _)
 rwa [List.take_length] at this
theorem tlen_lt {l : List Int} (h : ok32 l) : valI (4294967296 : Int) l < (4294967296 : Int) ^ tlen l := by
 rw [tlen_val]
 have := (val32 (ok32_take h (tlen l))).2
 rwa [List.length_take, Nat.min_eq_left (tlen_le l)] at this
theorem top_ge {l : List Int} (h : ok32 l) (n : Nat) (hn : n + 1 ≤ l.length) : l.getD n 0 * (4294967296 : Int) ^ n ≤ valI (4294967296 : Int) (l.take (n + 1)) ∧ valI (4294967296 : Int) (l.take (n + 1)) < (l.getD n 0 + 1) * (4294967296 : Int) ^ n := by
 rw [valI_take_succ (4294967296 : Int) l n zo]
 have h1 := val32 (ok32_take h n)
 rw [List.length_take, Nat.min_eq_left zo] at h1
 rw [Int.mul_comm ((4294967296 : Int) ^ n) (l.getD n 0), Int.add_mul, Int.one_mul]
 omega
theorem tlen_ge {l : List Int} (h : ok32 l) (n : Nat) (hn : tlen l = n + 1) : (4294967296 : Int) ^ n ≤ valI (4294967296 : Int) l := by
 have h1 := top_ge h n (by have := tlen_le l; omega)
 have h2 := tl_top l l.length (by show tlen l ≠ 0; omega)
 have h3 : l.getD n 0 ≠ 0 := by
  have : tl l l.length - 1 = n := by show tlen l - 1 = n; omega
  rwa [this] at h2
 have h4 := ok32_getD h n
 have h5 : 1 * (4294967296 : Int) ^ n ≤ l.getD n 0 * (4294967296 : Int) ^ n := Int.mul_le_mul_of_nonneg_right zo (Int.le_of_lt (b32_pos n))
 have h6 := tlen_val l
 rw [hn] at h6
 rw [h6]
 rw [Int.one_mul] at h5
 exact Int.le_trans h5 h1.1
theorem tlen_zero {l : List Int} (hn : tlen l = 0) : valI (4294967296 : Int) l = 0 := by
 rw [tlen_val, hn]; rfl
theorem b32_mono {m n : Nat} (h : m ≤ n) : (4294967296 : Int) ^ m ≤ (4294967296 : Int) ^ n := by
 obtain ⟨d, rfl⟩ := Nat.exists_eq_add_of_le h
 rw [Int.pow_add]
 have h1 := b32_pos m
 have h2 := b32_pos d
 have : (4294967296 : Int) ^ m * 1 ≤ (4294967296 : Int) ^ m * (4294967296 : Int) ^ d := Int.mul_le_mul_of_nonneg_left zo zo
 omega
theorem less_len {a b : List Int} (ha : ok32 a) (hb : ok32 b) (h : tlen a < tlen b) : valI (4294967296 : Int) a < valI (4294967296 : Int) b := by
 have h1 := tlen_lt ha
 have h2 := tlen_ge hb (tlen b - 1) zo
 have h3 := b32_mono (m := tlen a) (n := tlen b - 1) zo
 omega
theorem less_at {a b : List Int} (ha : ok32 a) (hb : ok32 b) (i : Nat) (h1 : i + 1 ≤ a.length) (h2 : i + 1 ≤ b.length) (h : a.getD i 0 < b.getD i 0) : valI (4294967296 : Int) (a.take (i + 1)) < valI (4294967296 : Int) (b.take (i + 1)) := by
 have k1 := (top_ge ha i h1).2
 have k2 := (top_ge hb i h2).1
 have k3 : (a.getD i 0 + 1) * (4294967296 : Int) ^ i ≤ b.getD i 0 * (4294967296 : Int) ^ i := Int.mul_le_mul_of_nonneg_right zo (Int.le_of_lt (b32_pos i))
 omega
theorem sub_end {a b out : List Int} {w : Int} (hb : ok32 b) (ho : ok32 out) (hol : out.length = a.length) (hw : w = 0 ∨ w = 1) (hle : valI (4294967296 : Int) b ≤ valI (4294967296 : Int) a) (hlt : valI (4294967296 : Int) a < (4294967296 : Int) ^ a.length)
  (hv : valI (4294967296 : Int) out + valI (4294967296 : Int) (b.take a.length) = valI (4294967296 : Int) a + w * (4294967296 : Int) ^ a.length) : valI (4294967296 : Int) out = valI (4294967296 : Int) a - valI (4294967296 : Int) b := by
 have h1 := val32 ho
 rw [hol] at h1
 have hp := b32_pos a.length
 have h2 : valI (4294967296 : Int) b = valI (4294967296 : Int) (b.take a.length) := by
  rcases Nat.le_total a.length b.length with h | h
  ·have h3 := valI_split (4294967296 : Int) b a.length h
   have h4 := val32 (ok32_take hb a.length)
   have h5 := val32 (ok32_drop hb a.length)
   have h6 : valI (4294967296 : Int) (b.drop a.length) = 0 := by
    rcases Int.lt_or_le 0 (valI (4294967296 : Int) (b.drop a.length)) with h | h
    ·exfalso
     have : (4294967296 : Int) ^ a.length * 1 ≤ (4294967296 : Int) ^ a.length * valI (4294967296 : Int) (b.drop a.length) := Int.mul_le_mul_of_nonneg_left zo (Int.le_of_lt hp)
     omega
    ·omega
   rw [h6, Int.mul_zero, Int.add_zero] at h3
   exact h3
  ·rw [List.take_of_length_le h]
 rcases hw with rfl | rfl
 ·rw [Int.zero_mul] at hv; omega
 ·exfalso; rw [Int.one_mul] at hv; omega
theorem mul_add_l0 (L : List Int) (by_ : Int) (hL : ok32 L) (hlen : L.length ≤ 100000) (hb0 : 0 ≤ by_) (hb1 : by_ < (4294967296 : Int)) :
  ∀ (d i : Nat) (out : List Int) (more : Int), L.length - i = d → i ≤ L.length → out.length = i → ok32 out → 0 ≤ more → more < (4294967296 : Int) →
  ∃ R : List Int, Ev (fun k => spec_l07MulAdd.l0 k L by_ more out (i : Int)) R ∧ ok32 R ∧ valI (4294967296 : Int) R = valI (4294967296 : Int) out + (4294967296 : Int) ^ i * (valI (4294967296 : Int) (L.drop i) * by_ + more) ∧ R.length ≤ L.length + 1 ∧ L.length ≤ R.length := by
 intro d
 induction d with
 | zero =>
  intro i out more hd hi hol ho h0 h1
  obtain rfl : i = L.length := by omega
  have e : valI (4294967296 : Int) (L.drop L.length) = 0 := by rw [List.drop_length]; rfl
  rw [e, Int.zero_mul, Int.zero_add]
  by_cases hm : more > 0
  ·refine ⟨out ++ [more], Ev.step (f := fun _ => some (out ++ [more])) (fun k => ?_) (Ev.now _), ok32_snoc ho h0 h1, ?_, by simp; omega, by simp; omega⟩
   ·simp only [spec_l07MulAdd.l0]
    rw [if_neg zo, if_pos hm, if_pos zo]
   ·rw [valI_snoc, hol]
  ·obtain rfl : more = 0 := by omega
   refine ⟨out, Ev.step (f := fun _ => some out) (fun k => ?_) (Ev.now _), ho, by rw [Int.mul_zero, Int.add_zero], by omega, by omega⟩
   simp only [spec_l07MulAdd.l0]
   rw [if_neg zo, if_neg zo]
 | succ d ih =>
  intro i out more hd hi hol ho h0 h1
  have hlt : i < L.length := by omega
  have hg := ok32_getD hL i
  have hm := mulB hg.1 hg.2 hb0 hb1
  have hx0 : 0 ≤ L.getD i 0 * by_ + more := by omega
  have hx1 : L.getD i 0 * by_ + more < 18446744073709551616 := by omega
  obtain ⟨R, r1, r2, r3, r4, r5⟩ := ih (i + 1) (out ++ [(L.getD i 0 * by_ + more) % (4294967296 : Int)]) ((L.getD i 0 * by_ + more) / (4294967296 : Int)) zo zo (by simp; omega) (ok32_snoc ho zo zo) zo zo
  refine ⟨R, Ev.step (fun k => ?_) r1, r2, ?_, r4, r5⟩
  ·simp only [spec_l07MulAdd.l0]
   rw [if_pos zo, if_pos zo, if_pos zo, rd_nat, wu64 (L.getD i 0 * by_), Int.emod_eq_of_lt hm.1 zo, wu64 (L.getD i 0 * by_ + more), Int.emod_eq_of_lt hx0 hx1, tdivN hx0, tmodN hx0, wu64, Int.emod_eq_of_lt zo zo, w64s zo]
  ·rw [r3, valI_snoc, hol, valI_drop (4294967296 : Int) L i hlt, Int.pow_succ]
   generalize valI (4294967296 : Int) (L.drop (i + 1)) = V
   have hd2 := Int.mul_ediv_add_emod (L.getD i 0 * by_ + more) (4294967296 : Int)
   generalize hq : (L.getD i 0 * by_ + more) / (4294967296 : Int) = q at *
   generalize hr : (L.getD i 0 * by_ + more) % (4294967296 : Int) = r at *
   generalize (4294967296 : Int) ^ i = P
   generalize L.getD i 0 = g at *
   generalize (4294967296 : Int) = B at *
   have : P * ((g + B * V) * by_ + more) = P * (B * q + r) + P * (B * V * by_) := by rw [hd2]; grind
   rw [this]; grind
theorem mul_add (L : List Int) (by_ more : Int) (hL : ok32 L) (hlen : L.length ≤ 100000) (hb0 : 0 ≤ by_) (hb1 : by_ < (4294967296 : Int)) (h0 : 0 ≤ more) (h1 : more < (4294967296 : Int)) :
  ∃ R : List Int, Ev (fun k => spec_l07MulAdd.f k L by_ more) R ∧ ok32 R ∧ valI (4294967296 : Int) R = valI (4294967296 : Int) L * by_ + more ∧ R.length ≤ L.length + 1 ∧ L.length ≤ R.length := by
 obtain ⟨R, r1, r2, r3, r4, r5⟩ := mul_add_l0 L by_ hL hlen hb0 hb1 L.length 0 [] more zo zo rfl ok32_nil h0 h1
 exact ⟨R, r1, r2, by rw [r3]; simp [valI], r4, r5⟩
theorem bin_l0 (s : ByteArray) (hs : s.size ≤ 1000) (hd : ∀ b ∈ s.data.toList, isDg b) : ∀ (d i : Nat) (L : List Int), s.size - i = d → i ≤ s.size → ok32 L → L.length ≤ i → valI (4294967296 : Int) L = ((valD (s.data.toList.take i) : Nat) : Int) →
  ∃ R : List Int, Ev (fun k => spec_l07Bin.l0 k s L (i : Int)) R ∧ ok32 R ∧ valI (4294967296 : Int) R = ((valD s.data.toList : Nat) : Int) ∧ R.length ≤ s.size := by
 intro d
 induction d with
 | zero =>
  intro i L hd2 hi hL hlen hv
  obtain rfl : i = s.size := by omega
  rw [List.take_of_length_le (by simp)] at hv
  exact ⟨L, Ev.step (f := fun _ => some L) (fun k => by simp only [spec_l07Bin.l0]; rw [if_neg zo]) (Ev.now _), hL, hv, hlen⟩
 | succ d ih =>
  intro i L hd2 hi hL hlen hv
  have hlt : i < s.size := by omega
  have hb := bt_list s i hlt
  have hdg := hd _ (List.getElem_mem (l := s.data.toList) (n := i) (by simpa using hlt))
  unfold isDg at hdg
  have htk := List.take_succ_eq_append_getElem (l := s.data.toList) (i := i) (by simpa using hlt)
  generalize s.data.toList[i]'(by simpa using hlt) = b at *
  obtain ⟨R, r1, r2, r3, r4, r5⟩ := mul_add L 10 ((b.toNat : Int) - 48) hL zo (by decide) (by decide) zo zo
  obtain ⟨R', s1, s2⟩ := ih (i + 1) R zo zo r2 zo (by rw [r3, hv, htk, valD_snoc]; omega)
  refine ⟨R', Ev.step (fun k => ?_) (Ev.bind (f := fun k t => spec_l07Bin.l0 k s t ((i + 1 : Nat) : Int)) r1 s1), s2⟩
  simp only [spec_l07Bin.l0]
  rw [if_pos zo, if_pos zo, hb, wu64 (b.toNat : Int), Int.emod_eq_of_lt zo zo, wu64, Int.emod_eq_of_lt zo zo, w64s zo]
theorem bin_ev (s : ByteArray) (hs : s.size ≤ 1000) (hd : ∀ b ∈ s.data.toList, isDg b) : ∃ R : List Int, Ev (fun k => spec_l07Bin.f k s) R ∧ ok32 R ∧ valI (4294967296 : Int) R = ((valD s.data.toList : Nat) : Int) ∧ R.length ≤ s.size :=
 bin_l0 s hs hd s.size 0 [] zo zo ok32_nil (by simp) (by simp [valI, valD])
theorem len_l0 (L : List Int) (hlen : L.length ≤ 100000) : ∀ (n : Nat), n ≤ L.length → Ev (fun k => spec_l07Len.l0 k L (n : Int)) ((tl L n : Nat) : Int) := by
 intro n
 induction n with
 | zero => intro _; exact Ev.step (f := fun _ => some 0) (fun k => by simp only [spec_l07Len.l0]; rw [if_neg zo]; rfl) (Ev.now _)
 | succ n ih =>
  intro h
  have e : wrap64 (((n + 1 : Nat) : Int) - 1) = (n : Int) := by rw [w64 zo zo]; omega
  by_cases h0 : L.getD n 0 = 0
  ·have ht : tl L (n + 1) = tl L n := if_pos h0
   rw [ht]
   refine Ev.step (fun k => ?_) (ih zo)
   simp only [spec_l07Len.l0]
   rw [if_pos zo, e, if_pos zo, if_pos zo, rd_nat, if_pos h0]
  ·have ht : tl L (n + 1) = n + 1 := if_neg h0
   rw [ht]
   refine Ev.step (f := fun _ => some ((n + 1 : Nat) : Int)) (fun k => ?_) (Ev.now _)
   simp only [spec_l07Len.l0]
   rw [if_pos zo, e, if_pos zo, if_pos zo, rd_nat, if_neg h0]
theorem len_ev (L : List Int) (hlen : L.length ≤ 100000) : Ev (fun k => spec_l07Len.f k L) ((tlen L : Nat) : Int) := len_l0 L hlen L.length (Nat.le_refl _)
theorem less_l0 (a b : List Int) (ha : ok32 a) (hb : ok32 b) (hla : a.length ≤ 100000) : ∀ n : Nat, n ≤ a.length → n ≤ b.length → Ev (fun k => spec_l07Less.l0 k a b ((n : Int) - 1)) (decide (valI (4294967296 : Int) (a.take n) < valI (4294967296 : Int) (b.take n))) := by
 intro n
 induction n with
 | zero =>
  intro _ _
  refine Ev.step (f := fun _ => some _) (fun k => ?_) (Ev.now _)
  simp only [spec_l07Less.l0]
  rw [if_neg zo]
  simp [valI]
 | succ n ih =>
  intro h1 h2
  have e : ((n + 1 : Nat) : Int) - 1 = n := by omega
  rw [e]
  by_cases he : a.getD n 0 = b.getD n 0
  ·have h' := ih zo zo
   have hv : decide (valI (4294967296 : Int) (a.take (n + 1)) < valI (4294967296 : Int) (b.take (n + 1))) = decide (valI (4294967296 : Int) (a.take n) < valI (4294967296 : Int) (b.take n)) := by
    rw [decide_eq_decide, valI_take_succ (4294967296 : Int) a n zo, valI_take_succ (4294967296 : Int) b n zo, he]
    omega
   rw [hv]
   refine Ev.step (fun k => ?_) h'
   simp only [spec_l07Less.l0]
   rw [if_pos zo, if_pos zo, if_pos zo, if_pos zo, rd_nat, rd_nat, if_pos he, w64 zo zo]
  ·have hv : decide (valI (4294967296 : Int) (a.take (n + 1)) < valI (4294967296 : Int) (b.take (n + 1))) = decide (a.getD n 0 < b.getD n 0) := by
    rw [decide_eq_decide]
    rcases Int.lt_or_le (a.getD n 0) (b.getD n 0) with h | h
    ·have := less_at ha hb n h1 h2 h
     exact ⟨fun _ => h, fun _ => this⟩
    ·have := less_at hb ha n h2 h1 zo
     exact ⟨fun hh => by omega, fun hh => by omega⟩
   rw [hv]
   refine Ev.step (f := fun _ => some (decide (a.getD n 0 < b.getD n 0))) (fun k => ?_) (Ev.now _)
   simp only [spec_l07Less.l0]
   rw [if_pos zo, if_pos zo, if_pos zo, if_pos zo, rd_nat, rd_nat, if_neg he]
theorem less_ev (a b : List Int) (ha : ok32 a) (hb : ok32 b) (hla : a.length ≤ 100000) (hlb : b.length ≤ 100000) : Ev (fun k => spec_l07Less.f k a b) (decide (valI (4294967296 : Int) a < valI (4294967296 : Int) b)) := by
 unfold spec_l07Less.f
 refine Ev.bind (len_ev a hla) (Ev.bind (len_ev b hlb) ?_)
 have h1 := tlen_le a
 have h2 := tlen_le b
 by_cases h : tlen a = tlen b
 ·refine ev_if zo ?_
  rw [w64 zo zo, tlen_val a, tlen_val b, ← h]
  exact less_l0 a b ha hb hla (tlen a) h1 zo
 ·refine ev_else zo ?_
  have e : decide (valI (4294967296 : Int) a < valI (4294967296 : Int) b) = decide (((tlen a : Nat) : Int) < ((tlen b : Nat) : Int)) := by
   rw [decide_eq_decide]
   rcases Nat.lt_or_ge (tlen a) (tlen b) with h3 | h3
   ·exact ⟨fun _ => by omega, fun _ => less_len ha hb h3⟩
   ·have := less_len hb ha zo
    exact ⟨fun hh => by omega, fun hh => by omega⟩
  rw [e]; exact Ev.now _
theorem sub_l0 (a b : List Int) (ha : ok32 a) (hb : ok32 b) (hla : a.length ≤ 100000) :
  ∀ (d i : Nat) (out : List Int) (w : Int), a.length - i = d → i ≤ a.length → out.length = i → ok32 out → (w = 0 ∨ w = 1) → valI (4294967296 : Int) out + valI (4294967296 : Int) (b.take i) = valI (4294967296 : Int) (a.take i) + w * (4294967296 : Int) ^ i →
  ∃ (R : List Int) (w' : Int), Ev (fun k => spec_l07Sub.l0 k a b out w (i : Int)) R ∧ ok32 R ∧ R.length = a.length ∧ (w' = 0 ∨ w' = 1) ∧ valI (4294967296 : Int) R + valI (4294967296 : Int) (b.take a.length) = valI (4294967296 : Int) a + w' * (4294967296 : Int) ^ a.length := by
 intro d
 induction d with
 | zero =>
  intro i out w hd hi hol ho hw hv
  obtain rfl : i = a.length := by omega
  rw [List.take_length] at hv
  refine ⟨out, w, Ev.step (f := fun _ => some out) (fun k => ?_) (Ev.now _), ho, hol, hw, hv⟩
  simp only [spec_l07Sub.l0]
  rw [if_neg zo]
 | succ d ih =>
  intro i out w hd hi hol ho hw hv
  have hga := ok32_getD ha i
  have hgb := ok32_getD hb i
  have hw' : 0 ≤ w ∧ w ≤ 1 := by omega
  -- what is taken here
  have hvb : valI (4294967296 : Int) (b.take (i + 1)) = valI (4294967296 : Int) (b.take i) + (4294967296 : Int) ^ i * b.getD i 0 := by
   by_cases h : i < b.length
   ·exact valI_take_succ (4294967296 : Int) b i h
   ·rw [List.take_of_length_le zo, List.take_of_length_le zo, getD_out b i zo, Int.mul_zero, Int.add_zero]
  have hva := valI_take_succ (4294967296 : Int) a i zo
  have hstep : ∀ (x w2 : Int), x = a.getD i 0 + w2 * (4294967296 : Int) - (w + b.getD i 0) → valI (4294967296 : Int) (out ++ [x]) + valI (4294967296 : Int) (b.take (i + 1)) = valI (4294967296 : Int) (a.take (i + 1)) + w2 * (4294967296 : Int) ^ (i + 1) := by
   intro x w2 hx
   rw [valI_snoc, hol, hvb, hva, Int.pow_succ, hx]
   generalize (4294967296 : Int) ^ i = P at *
   generalize (4294967296 : Int) = B at *
   grind
  have body : ∀ (y : Int), y = w + b.getD i 0 → (∀ k, spec_l07Sub.l0 (k + 1) a b out w (i : Int) = if a.getD i 0 < y then (if out.length < 17592186044416 then (spec_l07Sub.l0 k a b (out ++ [IntKind.u64.wrap ((IntKind.u64.wrap (a.getD i 0 + 4294967296)) - y)]) 1 (wrap64 ((i : Int) + 1))) else none) else (if out.length < 17592186044416 then (spec_l07Sub.l0 k a b (out ++ [IntKind.u64.wrap (a.getD i 0 - y)]) 0 (wrap64 ((i : Int) + 1))) else none)) →
    ∃ (R : List Int) (w' : Int), Ev (fun k => spec_l07Sub.l0 k a b out w (i : Int)) R ∧ ok32 R ∧ R.length = a.length ∧ (w' = 0 ∨ w' = 1) ∧ valI (4294967296 : Int) R + valI (4294967296 : Int) (b.take a.length) = valI (4294967296 : Int) a + w' * (4294967296 : Int) ^ a.length := by
   intro y hy hk
   by_cases hlt : a.getD i 0 < y
   ·obtain ⟨R, w2, r1, r2⟩ := ih (i + 1) (out ++ [a.getD i 0 + 4294967296 - y]) 1 zo zo (by simp; omega) (ok32_snoc ho zo zo) (.inr rfl) (hstep _ 1 (by rw [hy, Int.one_mul]))
    refine ⟨R, w2, Ev.step (fun k => ?_) r1, r2⟩
    rw [hk k, if_pos hlt, if_pos zo, wu64 (a.getD i 0 + 4294967296), Int.emod_eq_of_lt zo zo, wu64, Int.emod_eq_of_lt zo zo, w64s zo]
   ·obtain ⟨R, w2, r1, r2⟩ := ih (i + 1) (out ++ [a.getD i 0 - y]) 0 zo zo (by simp; omega) (ok32_snoc ho zo zo) (.inl rfl) (hstep _ 0 (by rw [hy, Int.zero_mul]; omega))
    refine ⟨R, w2, Ev.step (fun k => ?_) r1, r2⟩
    rw [hk k, if_neg hlt, if_pos zo, wu64, Int.emod_eq_of_lt zo zo, w64s zo]
  by_cases hib : i < b.length
  ·refine body (w + b.getD i 0) rfl (fun k => ?_)
   simp only [spec_l07Sub.l0]
   rw [if_pos zo, if_pos zo, if_pos zo, rd_nat, rd_nat, wu64 (w + b.getD i 0), Int.emod_eq_of_lt zo zo]
  ·refine body w (by rw [getD_out b i zo]; omega) (fun k => ?_)
   simp only [spec_l07Sub.l0]
   rw [if_pos zo, if_neg zo, if_pos zo, rd_nat]
theorem sub_ev (a b : List Int) (ha : ok32 a) (hb : ok32 b) (hla : a.length ≤ 100000) (hle : valI (4294967296 : Int) b ≤ valI (4294967296 : Int) a) :
  ∃ R : List Int, Ev (fun k => spec_l07Sub.f k a b) R ∧ ok32 R ∧ R.length = a.length ∧ valI (4294967296 : Int) R = valI (4294967296 : Int) a - valI (4294967296 : Int) b := by
 obtain ⟨R, w, r1, r2, r3, r4, r5⟩ := sub_l0 a b ha hb hla a.length 0 [] 0 zo zo rfl ok32_nil (.inl rfl) (by simp [valI])
 exact ⟨R, r1, r2, r3, sub_end hb r2 r3 r4 hle (val32 ha).2 r5⟩
theorem bits_l0 (n : Int) : ∀ (c : Nat) (x k : Nat), x < 2 ^ c → k + c ≤ 60 → 0 ≤ n → n ≤ 100000 →
  ∃ j : Nat, Ev (fun r => spec_l07Bits.l0 r n (k : Int) (x : Int)) (32 * (n - 1) + ((k + j : Nat) : Int)) ∧ x < 2 ^ j ∧ (x ≠ 0 → 2 ^ j ≤ 2 * x) ∧ (x = 0 → j = 0) ∧ j ≤ c := by
 have hstop : ∀ (k : Nat), k ≤ 100 → 0 ≤ n → n ≤ 100000 → Ev (fun r => spec_l07Bits.l0 r n (k : Int) ((0 : Nat) : Int)) (32 * (n - 1) + ((k + 0 : Nat) : Int)) := by
  intro k hk h0 h1
  refine Ev.step (f := fun _ => some (32 * (n - 1) + ((k + 0 : Nat) : Int))) (fun r => ?_) (Ev.now _)
  simp only [spec_l07Bits.l0]
  rw [if_neg zo, w64 (x := n - 1) zo zo, w64 (x := 32 * (n - 1)) zo zo, w64 zo zo]
  rfl
 intro c
 induction c with
 | zero =>
  intro x k hx hk h0 h1
  obtain rfl : x = 0 := by simpa using hx
  exact ⟨0, hstop k zo h0 h1, by omega, fun h => absurd rfl h, fun _ => rfl, Nat.le_refl _⟩
 | succ c ih =>
  intro x k hx hk h0 h1
  by_cases hx0 : x = 0
  ·subst hx0
   exact ⟨0, hstop k zo h0 h1, by omega, fun h => absurd rfl h, fun _ => rfl, by omega⟩
  ·have hx60 : x < 2 ^ 60 := Nat.lt_of_lt_of_le hx (Nat.pow_le_pow_right zo zo)
   rw [Nat.pow_succ] at hx
   obtain ⟨j, r1, r2, r3, r4, r5⟩ := ih (x / 2) (k + 1) zo zo h0 h1
   refine ⟨j + 1, ?_, ?_, ?_, fun h => absurd h hx0, by omega⟩
   ·refine Ev.step (fun r => ?_) (show Ev (fun r => spec_l07Bits.l0 r n (((k + 1 : Nat)) : Int) ((x / 2 : Nat) : Int)) _ by rw [show k + (j + 1) = k + 1 + j by omega]; exact r1)
    simp only [spec_l07Bits.l0]
    have hw : wrap64 ((k : Int) + 1) = ((k + 1 : Nat) : Int) := w64s zo
    rw [if_pos zo, tdivN zo, hw, wu64, show ((x : Int) / 2) % 18446744073709551616 = ((x / 2 : Nat) : Int) by omega]
   ·rw [Nat.pow_succ]; omega
   ·intro _
    rw [Nat.pow_succ]
    by_cases h2 : x / 2 = 0
    ·rw [r4 h2]; omega
    ·have := r3 h2; omega
def nv (L : List Int) : Nat := (valI (4294967296 : Int) L).toNat
theorem nv_val {L : List Int} (h : ok32 L) : ((nv L : Nat) : Int) = valI (4294967296 : Int) L := by
 have := (val32 h).1
 unfold nv; omega
theorem b32_nat (n : Nat) : (4294967296 : Int) ^ n = ((2 ^ (32 * n) : Nat) : Int) := by
 rw [Nat.pow_mul, Int.natCast_pow]; rfl
theorem bits_ev (L : List Int) (hL : ok32 L) (hlen : L.length ≤ 2000) : ∃ j : Nat, Ev (fun k => spec_l07Bits.f k L) (j : Int) ∧ nv L < 2 ^ j ∧ (nv L ≠ 0 → 2 ^ j ≤ 2 * nv L) ∧ j ≤ 32 * L.length := by
 have hl := len_ev L zo
 have htl := tlen_le L
 unfold spec_l07Bits.f
 cases hn : tlen L with
 | zero =>
  rw [hn] at hl
  have h0 : nv L = 0 := by unfold nv; rw [tlen_zero hn]; rfl
  exact ⟨0, Ev.bind hl (ev_if rfl (Ev.now _)), by omega, fun h => absurd h0 h, by omega⟩
 | succ n =>
  rw [hn] at hl
  have hg := ok32_getD hL n
  have h3 : L.getD n 0 ≠ 0 := by
   have h2 := tl_top L L.length (by show tlen L ≠ 0; omega)
   have : tl L L.length - 1 = n := by show tlen L - 1 = n; omega
   rwa [this] at h2
  obtain ⟨x, hx⟩ : ∃ x : Nat, L.getD n 0 = x := ⟨(L.getD n 0).toNat, by omega⟩
  have hx32 : x < 2 ^ 32 := by have := hg.2; omega
  obtain ⟨j, r1, r2, r3, r4, r5⟩ := bits_l0 ((n + 1 : Nat) : Int) 32 x 0 hx32 zo zo zo
  have htop := top_ge hL n zo
  have hv := tlen_val L
  rw [hn] at hv
  rw [← hv, ← nv_val hL, b32_nat, hx] at htop
  have t1 : x * 2 ^ (32 * n) ≤ nv L := by
   have := htop.1
   rw [← Int.natCast_mul] at this
   omega
  have t2 : nv L < (x + 1) * 2 ^ (32 * n) := by
   have := htop.2
   rw [show ((x : Int) + 1) = ((x + 1 : Nat) : Int) from rfl, ← Int.natCast_mul] at this
   omega
  refine ⟨32 * n + j, ?_, ?_, fun _ => ?_, by omega⟩
  ·refine Ev.bind hl ?_
   have hwn : wrap64 (((n + 1 : Nat) : Int) - 1) = (n : Int) := by rw [w64 zo zo]; omega
   rw [hwn, rd_nat, hx]
   refine ev_else zo (ev_if zo (ev_if zo ?_))
   have e : 32 * (((n + 1 : Nat) : Int) - 1) + ((0 + j : Nat) : Int) = ((32 * n + j : Nat) : Int) := by omega
   rw [e] at r1
   exact r1
  ·rw [Nat.pow_add, Nat.mul_comm]
   exact Nat.lt_of_lt_of_le t2 (Nat.mul_le_mul_right _ r2)
  ·have := r3 zo
   have h4 := Nat.mul_le_mul_right (2 ^ (32 * n)) this
   rw [Nat.pow_add, Nat.mul_comm]
   rw [Nat.mul_assoc] at h4
   omega
theorem up_ev (L : List Int) (n : Nat) (hL : ok32 L) (hlen : L.length ≤ 2000) (hn : n ≤ 100000) : ∃ R : List Int, Ev (fun k => spec_l07Up.f k L (n : Int)) R ∧ ok32 R ∧ nv R = nv L * 2 ^ n ∧ R.length ≤ L.length + n / 32 + 1 := by
 have hp : 2 ^ (n % 32) ≤ 2 ^ 31 := Nat.pow_le_pow_right zo zo
 obtain ⟨R, r1, r2, r3, r4, r5⟩ := mul_add L ((2 ^ (n % 32) : Nat) : Int) 0 hL zo (Int.natCast_nonneg _) zo zo (by decide)
 have e1 : wrap64 (Int.tdiv (n : Int) 32) = ((n / 32 : Nat) : Int) := by rw [tdivN zo, w64 zo zo]; omega
 have e2 : Int.tmod (n : Int) 32 = ((n % 32 : Nat) : Int) := by rw [tmodN zo]; omega
 have hok : ok32 (List.replicate (n / 32) 0 ++ R) := by
  intro y hy
  rcases List.mem_append.1 hy with e | e
  ·rw [(List.mem_replicate.1 e).2]; decide
  ·exact r2 y e
 refine ⟨List.replicate (n / 32) 0 ++ R, ?_, hok, ?_, by simp; omega⟩
 ·unfold spec_l07Up.f
  rw [e1, e2]
  refine ev_if zo (ev_if (by rw [Int.toNat_natCast]; omega) ?_)
  simp only [Option.bind_some, Int.toNat_natCast]
  refine Ev.bind (spec_pow (n % 32) zo) (Ev.bind r1 (ev_if ?_ (Ev.now _)))
  rw [List.length_replicate]; omega
 ·have h1 := nv_val hok
  have h2 := nv_val hL
  rw [valI_append, valI_zeros, Int.zero_add, List.length_replicate, r3, Int.add_zero, b32_nat, ← h2, ← Int.natCast_mul, ← Int.natCast_mul] at h1
  have h3 : nv (List.replicate (n / 32) 0 ++ R) = 2 ^ (32 * (n / 32)) * (nv L * 2 ^ (n % 32)) := by omega
  rw [h3]
  have e : 2 ^ n = 2 ^ (32 * (n / 32)) * 2 ^ (n % 32) := by rw [← Nat.pow_add]; congr 1; omega
  rw [e]; ac_rfl
theorem quot_step {A D k n a : Nat} (h : A * 2 ^ k = n * (2 * D) + a) (ha : a < 2 * D) :
  (a < D → A * 2 ^ (k + 1) = (n * 2) * (2 * D) + a * 2 ∧ a * 2 < 2 * D) ∧ (D ≤ a → A * 2 ^ (k + 1) = (n * 2 + 1) * (2 * D) + (a - D) * 2 ∧ (a - D) * 2 < 2 * D) := by
 have e : A * 2 ^ (k + 1) = n * 2 * (2 * D) + a * 2 := by
  rw [Nat.pow_succ, ← Nat.mul_assoc, h, Nat.add_mul]; congr 1; ac_rfl
 refine ⟨fun h1 => ⟨e, by omega⟩, fun h1 => ⟨?_, by omega⟩⟩
 rw [e, Nat.add_mul, Nat.one_mul]
 generalize n * 2 * (2 * D) = X
 omega
theorem quot_lt {A D k n a : Nat} (h : A * 2 ^ k = n * (2 * D) + a) (hA : A < D) (hk : 1 ≤ k) : n < 2 ^ (k - 1) := by
 have hD : 0 < D := by omega
 apply Nat.lt_of_mul_lt_mul_right (a := 2 * D)
 have e : 2 ^ k = 2 ^ (k - 1) * 2 := by rw [← Nat.pow_succ]; congr 1; omega
 have h1 : A * 2 ^ k < D * 2 ^ k := Nat.mul_lt_mul_of_pos_right hA (Nat.pow_pos zo)
 have h2 : D * 2 ^ k = 2 ^ (k - 1) * (2 * D) := by rw [e]; ac_rfl
 omega
theorem quot_end {A B n a : Nat} (hB : 0 < B) (h : A * 2 ^ 64 = n * (2 * (B * 2 ^ 63)) + a) (ha : a < 2 * (B * 2 ^ 63)) : n = A / B ∧ (decide (a > 0) = decide (A % B ≠ 0)) := by
 have e : 2 * (B * 2 ^ 63) = B * 2 ^ 64 := by rw [show (2 : Nat) ^ 64 = 2 * 2 ^ 63 from rfl]; ac_rfl
 rw [e] at h ha
 have hd : A * 2 ^ 64 / (B * 2 ^ 64) = A / B := Nat.mul_div_mul_right A B (by decide)
 have hm : A * 2 ^ 64 % (B * 2 ^ 64) = A % B * 2 ^ 64 := Nat.mul_mod_mul_right _ _ _
 have h1 : A * 2 ^ 64 / (B * 2 ^ 64) = n := by
  rw [h, Nat.mul_comm n, Nat.mul_add_div zo, Nat.div_eq_of_lt ha, Nat.add_zero]
 have h2 : A * 2 ^ 64 % (B * 2 ^ 64) = a := by
  rw [h, Nat.mul_comm n, Nat.mul_add_mod, Nat.mod_eq_of_lt ha]
 refine ⟨by rw [← h1, hd], ?_⟩
 rw [decide_eq_decide, ← h2, hm]
 generalize A % B = r
 omega
open CR in
theorem round_near (b : Bool) (M : Nat) (E : Int) (st : Bool) (h0 : M ≠ 0) (h1 : -5000 ≤ E) (h2 : E ≤ 5000) (hst : st = true → 72057594037927936 ≤ M) : roundT b M E st = nearS b M E st := by
 unfold roundT
 rw [if_neg h0, show clampE E = E by unfold clampE; omega]
 congr 1
 cases hs : st
 ·rfl
 ·rw [decide_eq_true (hst hs)]; rfl
theorem quot_l0 (A B : Nat) (up : Int) (hup1 : -4000 ≤ up) (hup2 : up ≤ 4000) (D : List Int) (hD : ok32 D) (hDl : D.length ≤ 50000) (hDv : nv D = B * 2 ^ 63) (hB : 0 < B) (hA : A < B * 2 ^ 63) :
  ∀ (d k n : Nat) (L : List Int), 64 - k = d → k ≤ 64 → ok32 L → L.length ≤ 3000 + k → A * 2 ^ k = n * (2 * (B * 2 ^ 63)) + nv L → nv L < 2 * (B * 2 ^ 63) →
  Ev (fun r => spec_l07Quotient.l0 r L up (n : Int) D (63 - (k : Int))) ((roundT false (A / B) (-up) (decide (A % B ≠ 0)) : Nat) : Int) := by
 have hl0 : ∀ (r : Nat) (L : List Int) (n i : Int), spec_l07Quotient.l0 (r + 1) L up n D i = if i ≥ 0 then ((spec_l07Less.f r L D).bind fun t174 => (if t174 = true then ((spec_l07MulAdd.f r L 2 0).bind fun t175 => (spec_l07Quotient.l0 r t175 up (IntKind.u64.wrap (n * 2)) D (wrap64 (i - 1)))) else ((spec_l07Sub.f r L D).bind fun t178 => ((spec_l07MulAdd.f r t178 2 0).bind fun t181 => (spec_l07Quotient.l0 r t181 up (IntKind.u64.wrap ((IntKind.u64.wrap (n * 2)) + 1)) D (wrap64 (i - 1))))))) else ((spec_l07Len.f r L).bind fun t172 => ((spec_RoundTo.f r false n (wrap64 (-up)) (decide (t172 > 0))).bind fun t173 => (some t173))) := fun _ _ _ _ => rfl
 intro d
 induction d with
 | zero =>
  intro k n L hd hk hL hLl hq hlt
  obtain rfl : k = 64 := by omega
  obtain ⟨q1, q2⟩ := quot_end hB hq hlt
  have hn : n < 18446744073709551616 := by
   have := quot_lt hq hA zo
   exact Nat.lt_trans this (by decide)
  have ht := len_ev L zo
  have hdec : decide (((tlen L : Nat) : Int) > 0) = decide (A % B ≠ 0) := by
   rw [← q2, decide_eq_decide]
   constructor
   ·intro h
    have := tlen_ge hL (tlen L - 1) zo
    have h2 := b32_pos (tlen L - 1)
    have h3 := nv_val hL
    omega
   ·intro h
    rcases Nat.eq_zero_or_pos (tlen L) with h0 | h0
    ·have := tlen_zero h0
     have h3 := nv_val hL
     omega
    ·omega
  refine Ev.step (fun r => hl0 r L n _) (ev_else zo (Ev.bind ht ?_))
  rw [hdec, w64 zo zo, ← q1]
  exact Ev.bind (spec_round false n hn (-up) _) (Ev.now _)
 | succ d ih =>
  intro k n L hd hk hL hLl hq hlt
  obtain ⟨s1, s2⟩ := quot_step hq hlt
  have hle := less_ev L D hL hD zo zo
  have hi : wrap64 ((63 - (k : Int)) - 1) = 63 - ((k + 1 : Nat) : Int) := by rw [w64 zo zo]; omega
  have hl := nv_val hL
  have hd2 := nv_val hD
  have hpos : 63 - (k : Int) ≥ 0 := by omega
  by_cases hc : nv L < B * 2 ^ 63
  ·obtain ⟨t1, t2⟩ := s1 hc
   obtain ⟨R, r1, r2, r3, r4, r5⟩ := mul_add L 2 0 hL zo (by decide) (by decide) (by decide) (by decide)
   have hR : nv R = nv L * 2 := by
    have := nv_val r2
    omega
   have hbound := quot_lt t1 hA zo
   have hn : n * 2 < 18446744073709551616 := Nat.lt_of_lt_of_le hbound (by
    have := Nat.pow_le_pow_right (n := 2) zo (show k + 1 - 1 ≤ 64 by omega)
    exact Nat.le_trans this (by decide))
   have h' := ih (k + 1) (n * 2) R zo zo r2 zo (by rw [hR]; exact t1) (by rw [hR]; exact t2)
   rw [decide_eq_true zo] at hle
   refine Ev.step (fun r => hl0 r L n _) (ev_if hpos (Ev.bind hle (ev_if rfl (Ev.bind r1 ?_))))
   rw [hi, wu64, show ((n : Int) * 2) % 18446744073709551616 = ((n * 2 : Nat) : Int) by omega]
   exact h'
  ·obtain ⟨t1, t2⟩ := s2 zo
   obtain ⟨S, u1, u2, u3, u4⟩ := sub_ev L D hL hD zo zo
   obtain ⟨R, r1, r2, r3, r4, r5⟩ := mul_add S 2 0 u2 zo (by decide) (by decide) (by decide) (by decide)
   have hR : nv R = (nv L - B * 2 ^ 63) * 2 := by
    have := nv_val r2
    omega
   have hbound := quot_lt t1 hA zo
   have hn : n * 2 + 1 < 18446744073709551616 := Nat.lt_of_lt_of_le hbound (by
    have := Nat.pow_le_pow_right (n := 2) zo (show k + 1 - 1 ≤ 64 by omega)
    exact Nat.le_trans this (by decide))
   have h' := ih (k + 1) (n * 2 + 1) R zo zo r2 zo (by rw [hR]; exact t1) (by rw [hR]; exact t2)
   rw [decide_eq_false zo] at hle
   refine Ev.step (fun r => hl0 r L n _) (ev_if hpos (Ev.bind hle (ev_else (by decide) (Ev.bind u1 (Ev.bind r1 ?_)))))
   rw [hi, wu64 ((n : Int) * 2), show ((n : Int) * 2) % 18446744073709551616 = ((n * 2 : Nat) : Int) by omega, wu64, show (((n * 2 : Nat) : Int) + 1) % 18446744073709551616 = ((n * 2 + 1 : Nat) : Int) by omega]
   exact h'
open CQ in
theorem quot_near {A B : Nat} {up : Int} (hup1 : -4000 ≤ up) (hup2 : up ≤ 4000) (hB : 0 < B) (hA : B * 2 ^ 61 ≤ A) : NearE A B (-up) (roundT false (A / B) (-up) (decide (A % B ≠ 0))) := by
 have hq : 2 ^ 61 ≤ A / B := (Nat.le_div_iff_mul_le hB).2 (by rw [Nat.mul_comm]; exact hA)
 have h56 : 72057594037927936 ≤ A / B := Nat.le_trans (by decide) hq
 rw [round_near false (A / B) (-up) _ zo zo zo (fun _ => h56)]
 exact nearS_nearE hB rfl h56
@[irreducible] def T2400 : Nat := 2 ^ 2400
theorem two_up (m k : Nat) (h : m ≤ k) : 2 ^ m ≤ 2 ^ k := Nat.pow_le_pow_right zo h
theorem T2400_ge (k : Nat) (h : k ≤ 2400) : 2 ^ k ≤ T2400 := by unfold T2400; exact two_up k 2400 h
theorem T2400_le (k : Nat) (h : 2400 ≤ k) : T2400 ≤ 2 ^ k := by unfold T2400; exact two_up 2400 k h
theorem T2400_lt {j x : Nat} (h : 2 ^ j ≤ 2 * x) (hx : x < T2400) : j < 2401 := by
 rcases Nat.lt_or_ge j 2401 with h1 | h1
 ·exact h1
 ·exfalso
  have h2 := T2400_le (j - 1) zo
  have e : 2 ^ j = 2 ^ (j - 1) * 2 := by rw [← Nat.pow_succ]; congr 1; omega
  omega
open CQ in
theorem quot_ev (a b : List Int) (ha : ok32 a) (hb : ok32 b) (hla : a.length ≤ 1000) (hlb : b.length ≤ 1000) (ha0 : nv a ≠ 0) (hb0 : nv b ≠ 0) (hav : nv a < T2400) (hbv : nv b < T2400) : ∃ w : Nat, Ev (fun k => spec_l07Quotient.f k a b) (w : Int) ∧ NearE (nv a) (nv b) 0 w := by
 obtain ⟨ja, p1, p2, p3, p4⟩ := bits_ev a ha zo
 obtain ⟨jb, q1, q2, q3, q4⟩ := bits_ev b hb zo
 have p3 := p3 ha0
 have q3 := q3 hb0
 have hja := T2400_lt p3 hav
 have hjb := T2400_lt q3 hbv
 clear hav hbv
 have hw1 : wrap64 ((jb : Int) + 62) = (jb : Int) + 62 := w64 zo zo
 have hw : wrap64 ((jb : Int) + 62 - (ja : Int)) = (jb : Int) + 62 - ja := w64 zo zo
 have hj0 : ∀ (x y : List Int) (u : Int) (r : Nat), spec_l07Quotient.j0 (r + 1) x y u = (spec_l07Up.f r y 63).bind fun t169 => (spec_l07Quotient.l0 r x u 0 t169 63) := fun _ _ _ _ => rfl
 by_cases hup : (jb : Int) + 62 - ja > 0
 ·obtain ⟨m, hm⟩ : ∃ m : Nat, (jb : Int) + 62 - ja = m := ⟨((jb : Int) + 62 - ja).toNat, by omega⟩
  obtain ⟨R, r1, r2, r3, r4⟩ := up_ev a m ha zo zo
  obtain ⟨D, d1, d2, d3, d4⟩ := up_ev b 63 hb zo zo
  have e1 : 2 ^ ja * 2 ^ m = 2 ^ jb * 2 ^ 62 := by rw [← Nat.pow_add, ← Nat.pow_add]; congr 1; omega
  have hA1 : nv R < nv b * 2 ^ 63 := by
   rw [r3]
   have h1 : nv a * 2 ^ m < 2 ^ ja * 2 ^ m := Nat.mul_lt_mul_of_pos_right p2 (Nat.pow_pos zo)
   have h2 : 2 ^ jb * 2 ^ 62 ≤ 2 * nv b * 2 ^ 62 := Nat.mul_le_mul_right _ q3
   have h3 : 2 * nv b * 2 ^ 62 = nv b * 2 ^ 63 := by rw [show (2 : Nat) ^ 63 = 2 * 2 ^ 62 from rfl]; ac_rfl
   omega
  have hA2 : nv b * 2 ^ 61 ≤ nv R := by
   rw [r3]
   have h1 : 2 ^ ja * 2 ^ m ≤ 2 * nv a * 2 ^ m := Nat.mul_le_mul_right _ p3
   have h2 : nv b * 2 ^ 62 ≤ 2 ^ jb * 2 ^ 62 := Nat.mul_le_mul_right _ (Nat.le_of_lt q2)
   have h3 : nv b * 2 ^ 62 = 2 * (nv b * 2 ^ 61) := by rw [show (2 : Nat) ^ 62 = 2 * 2 ^ 61 from rfl]; ac_rfl
   have h4 : 2 * nv a * 2 ^ m = 2 * (nv a * 2 ^ m) := by rw [Nat.mul_assoc]
   rw [h3, ← e1] at h2
   rw [h4] at h1
   exact Nat.le_of_mul_le_mul_left (Nat.le_trans h2 h1) zo
  have hmain := quot_l0 (nv R) (nv b) m zo zo D d2 zo d3 zo hA1 64 0 0 R zo zo r2 zo (by rw [Nat.pow_zero, Nat.mul_one, Nat.zero_mul, Nat.zero_add]) zo
  refine ⟨_, ?_, (nearE_same (A := nv R) (B := nv b) (C := nv a) (D := nv b) (E := -(m : Int)) (F := 0) zo zo m 0 zo (by rw [r3, Nat.pow_zero, Nat.mul_one])).1 (quot_near (up := m) zo zo zo hA2)⟩
  unfold spec_l07Quotient.f
  refine Ev.bind q1 (Ev.bind p1 ?_)
  rw [hw1, hw, hm]
  refine ev_if zo (Ev.bind r1 (Ev.step (hj0 R b m) (Ev.bind d1 hmain)))
 ·obtain ⟨m, hm⟩ : ∃ m : Nat, (jb : Int) + 62 - ja = -(m : Int) := ⟨(-((jb : Int) + 62 - ja)).toNat, by omega⟩
  obtain ⟨R, r1, r2, r3, r4⟩ := up_ev b m hb zo zo
  obtain ⟨D, d1, d2, d3, d4⟩ := up_ev R 63 r2 zo zo
  have e1 : 2 ^ ja = 2 ^ jb * 2 ^ 62 * 2 ^ m := by rw [← Nat.pow_add, ← Nat.pow_add]; congr 1; omega
  have hR0 : 0 < nv R := by rw [r3]; exact Nat.mul_pos zo (Nat.pow_pos zo)
  have hA1 : nv a < nv R * 2 ^ 63 := by
   rw [r3]
   have h2 : 2 ^ jb * 2 ^ 62 * 2 ^ m ≤ 2 * nv b * 2 ^ 62 * 2 ^ m := Nat.mul_le_mul_right _ (Nat.mul_le_mul_right _ q3)
   have h3 : 2 * nv b * 2 ^ 62 * 2 ^ m = nv b * 2 ^ m * 2 ^ 63 := by rw [show (2 : Nat) ^ 63 = 2 * 2 ^ 62 from rfl]; ac_rfl
   omega
  have hA2 : nv R * 2 ^ 61 ≤ nv a := by
   rw [r3]
   have h2 : nv b * 2 ^ 62 * 2 ^ m ≤ 2 ^ jb * 2 ^ 62 * 2 ^ m := Nat.mul_le_mul_right _ (Nat.mul_le_mul_right _ (Nat.le_of_lt q2))
   have h3 : nv b * 2 ^ 62 * 2 ^ m = 2 * (nv b * 2 ^ m * 2 ^ 61) := by rw [show (2 : Nat) ^ 62 = 2 * 2 ^ 61 from rfl]; ac_rfl
   omega
  have hmain := quot_l0 (nv a) (nv R) (-(m : Int)) zo zo D d2 zo d3 hR0 hA1 64 0 0 a zo zo ha zo (by rw [Nat.pow_zero, Nat.mul_one, Nat.zero_mul, Nat.zero_add]) zo
  have hnear := quot_near (A := nv a) (B := nv R) (up := -(m : Int)) zo zo hR0 hA2
  refine ⟨_, ?_, (nearE_same (A := nv a) (B := nv R) (C := nv a) (D := nv b) (E := - -(m : Int)) (F := 0) hR0 zo 0 m zo (by rw [r3, Nat.pow_zero, Nat.mul_one]; ac_rfl)).1 hnear⟩
  unfold spec_l07Quotient.f
  refine Ev.bind q1 (Ev.bind p1 ?_)
  rw [hw1, hw, hm]
  refine ev_else zo ?_
  have hneg : wrap64 (-(-(m : Int))) = (m : Int) := by rw [Int.neg_neg, w64 zo zo]
  rw [hneg]
  exact Ev.bind r1 (Ev.step (hj0 a R (-(m : Int))) (Ev.bind d1 hmain))
theorem spec_fig_l0 (s : ByteArray) (hs : s.size ≤ 140737488351232) : ∀ (d i : Nat), s.size - i = d → Ev (fun k => spec_FiguresOk.l0 k s i) (digB s i) := by
 intro d
 induction d with
 | zero =>
  intro i hd
  rw [digB_end s i zo]
  exact Ev.step (f := fun _ => some true) (fun k => by simp only [spec_FiguresOk.l0]; rw [if_neg zo]) (Ev.now _)
 | succ d ih =>
  intro i hd
  by_cases h1 : bt s i < 48
  ·rw [digB_no s i zo (.inl h1)]
   exact Ev.step (f := fun _ => some false) (fun k => by simp only [spec_FiguresOk.l0]; rw [if_pos zo, if_pos zo, if_pos h1]) (Ev.now _)
  ·by_cases h2 : bt s i > 57
   ·rw [digB_no s i zo (.inr h2)]
    exact Ev.step (f := fun _ => some false) (fun k => by simp only [spec_FiguresOk.l0]; rw [if_pos zo, if_pos zo, if_neg h1, if_pos h2]) (Ev.now _)
   ·rw [digB_yes s i zo]
    exact Ev.step (fun k => by simp only [spec_FiguresOk.l0]; rw [if_pos zo, if_pos zo, if_neg h1, if_neg h2, w64 zo zo]; rfl) (ih (i + 1) zo)
theorem spec_fig (s : ByteArray) (hs : s.size ≤ 140737488351232) : Ev (fun k => spec_FiguresOk.f k s) (figOk s) := by
 have h0 := spec_fig_l0 s hs s.size 0 zo
 unfold spec_FiguresOk.f
 rw [spec_in]
 simp only [Option.bind_some]
 by_cases h1 : 1 ≤ s.size ∧ s.size ≤ 800
 ·have e1 : decide ((1 : Int) ≤ (s.size : Int) ∧ (s.size : Int) ≤ 800) = true := decide_eq_true zo
  simp only [e1, if_true]
  by_cases h2 : (s.size : Int) > 1
  ·simp only [if_pos h2, if_pos (show (0 : Int) < (s.size : Int) by omega)]
   by_cases h3 : bt s 0 = 48
   ·have e : figOk s = false := by unfold figOk; simp [h3]; omega
    rw [e]
    exact Ev.step (f := fun _ => some false) (fun k => by simp [spec_FiguresOk.j0, h3]) (Ev.now _)
   ·have e : figOk s = digB s 0 := by unfold figOk; simp [h3, h1]
    rw [e]
    exact Ev.step (fun k => by simp only [spec_FiguresOk.j0]; rw [if_neg (by simpa using h3)]; rfl) h0
  ·simp only [if_neg h2]
   have e : figOk s = digB s 0 := by
    unfold figOk
    have : decide (1 < s.size) = false := decide_eq_false zo
    simp [h1, this]
   rw [e]
   exact Ev.step (fun k => by simp only [spec_FiguresOk.j0]; rw [if_neg (by simp)]; rfl) h0
 ·have e1 : decide ((1 : Int) ≤ (s.size : Int) ∧ (s.size : Int) ≤ 800) = false := decide_eq_false zo
  have e : figOk s = false := by unfold figOk; rw [decide_eq_false h1]; rfl
  simp only [e1, e]
  exact Ev.step (f := fun _ => some false) (fun k => by simp [spec_FiguresOk.j0]) (Ev.now _)
theorem zero_l0 (s : ByteArray) (hs : s.size ≤ 1000) : ∀ (d i : Nat), s.size - i = d → i ≤ s.size → Ev (fun k => spec_l07Zero.l0 k s (i : Int)) (decide (∀ j : Nat, j < s.size → i ≤ j → bt s (j : Int) = 48)) := by
 intro d
 induction d with
 | zero =>
  intro i hd hi
  rw [decide_eq_true (fun j h1 h2 => by omega)]
  exact Ev.step (f := fun _ => some true) (fun k => by simp only [spec_l07Zero.l0]; rw [if_neg zo]) (Ev.now _)
 | succ d ih =>
  intro i hd hi
  by_cases h : bt s (i : Int) = 48
  ·have e : decide (∀ j : Nat, j < s.size → i ≤ j → bt s (j : Int) = 48) = decide (∀ j : Nat, j < s.size → i + 1 ≤ j → bt s (j : Int) = 48) := by
    rw [decide_eq_decide]
    constructor
    ·exact fun H j h2 h1 => H j h2 zo
    ·intro H j h2 h1
     rcases Nat.eq_or_lt_of_le h1 with rfl | h3
     ·exact h
     ·exact H j h2 h3
   rw [e]
   refine Ev.step (fun k => ?_) (ih (i + 1) zo zo)
   simp only [spec_l07Zero.l0]
   rw [if_pos zo, if_pos zo, if_pos h, w64s zo]
  ·rw [decide_eq_false (fun H => h (H i zo (Nat.le_refl _)))]
   refine Ev.step (f := fun _ => some false) (fun k => ?_) (Ev.now _)
   simp only [spec_l07Zero.l0]
   rw [if_pos zo, if_pos zo, if_neg h]
theorem zero_ev (s : ByteArray) (h : figOk s = true) : Ev (fun k => spec_l07Zero.f k s) (decide (bt s 0 = 48)) := by
 obtain ⟨h1, h2, h3, h4⟩ := figOk_parts s h
 have e : decide (bt s 0 = 48) = decide (∀ j : Nat, j < s.size → 0 ≤ j → bt s (j : Int) = 48) := by
  rw [decide_eq_decide]
  constructor
  ·intro h5 j hj _
   have : ¬ 1 < s.size := fun h6 => h4 ⟨h5, h6⟩
   obtain rfl : j = 0 := by omega
   exact h5
  ·exact fun H => H 0 zo (Nat.le_refl _)
 rw [e]
 exact zero_l0 s zo s.size 0 rfl zo
theorem near_l1 (E : Int) (hE1 : -500 ≤ E) (hE2 : E ≤ 500) (a : List Int) (r : Int) : ∀ (d i : Nat) (b : List Int), (-E).toNat - i = d → i ≤ (-E).toNat → ok32 b → b.length ≤ 1 + i →
  (∀ b', ok32 b' → b'.length ≤ 501 → nv b' = nv b * 10 ^ ((-E).toNat - i) → Ev (fun k => spec_l07Quotient.f k a b') r) → Ev (fun k => spec_Nearest.l1 k E a b (i : Int)) r := by
 have hw : wrap64 (-E) = -E := w64 zo zo
 have hl1 : ∀ (k : Nat) (b : List Int) (i : Int), spec_Nearest.l1 (k + 1) E a b i = if i < wrap64 (-E) then ((spec_l07MulAdd.f k b 10 0).bind fun t196 => (spec_Nearest.l1 k E a t196 (wrap64 (i + 1)))) else ((spec_l07Quotient.f k a b).bind fun t199 => (some t199)) := fun _ _ _ => rfl
 intro d
 induction d with
 | zero =>
  intro i b hd hi hb hbl hc
  have h1 := hc b hb zo (by rw [show (-E).toNat - i = 0 by omega, Nat.pow_zero, Nat.mul_one])
  exact Ev.step (fun k => hl1 k b _) (ev_else (by rw [hw]; omega) (Ev.bind h1 (Ev.now _)))
 | succ d ih =>
  intro i b hd hi hb hbl hc
  have hlt : (i : Int) < -E := by omega
  obtain ⟨R, r1, r2, r3, r4, r5⟩ := mul_add b 10 0 hb zo (by decide) (by decide) (by decide) (by decide)
  have hR : nv R = nv b * 10 := by
   have h1 := nv_val r2
   have h2 := nv_val hb
   omega
  have h' := ih (i + 1) R zo zo r2 zo (fun b' q1 q2 q3 => hc b' q1 q2 (by
   rw [q3, hR, show (-E).toNat - i = ((-E).toNat - (i + 1)) + 1 by omega, Nat.pow_succ]; ac_rfl))
  have hi2 : wrap64 ((i : Int) + 1) = ((i + 1 : Nat) : Int) := w64s zo
  exact Ev.step (fun k => hl1 k b _) (ev_if (by rw [hw]; exact hlt) (Ev.bind r1 (by rw [hi2]; exact h')))
theorem near_l0 (E : Int) (hE1 : -500 ≤ E) (hE2 : E ≤ 500) (b : List Int) (r : Int) : ∀ (d i : Nat) (a : List Int), E.toNat - i = d → i ≤ E.toNat → ok32 a → a.length ≤ 60 + i →
  (∀ a', ok32 a' → a'.length ≤ 560 → nv a' = nv a * 10 ^ (E.toNat - i) → Ev (fun k => spec_Nearest.l1 k E a' b 0) r) → Ev (fun k => spec_Nearest.l0 k E a b (i : Int)) r := by
 have hl0 : ∀ (k : Nat) (a : List Int) (i : Int), spec_Nearest.l0 (k + 1) E a b i = if i < E then ((spec_l07MulAdd.f k a 10 0).bind fun t193 => (spec_Nearest.l0 k E t193 b (wrap64 (i + 1)))) else (spec_Nearest.l1 k E a b 0) := fun _ _ _ => rfl
 intro d
 induction d with
 | zero =>
  intro i a hd hi ha hal hc
  have h1 := hc a ha zo (by rw [show E.toNat - i = 0 by omega, Nat.pow_zero, Nat.mul_one])
  exact Ev.step (fun k => hl0 k a _) (ev_else zo h1)
 | succ d ih =>
  intro i a hd hi ha hal hc
  have hlt : (i : Int) < E := by omega
  obtain ⟨R, r1, r2, r3, r4, r5⟩ := mul_add a 10 0 ha zo (by decide) (by decide) (by decide) (by decide)
  have hR : nv R = nv a * 10 := by
   have h1 := nv_val r2
   have h2 := nv_val ha
   omega
  have h' := ih (i + 1) R zo zo r2 zo (fun b' q1 q2 q3 => hc b' q1 q2 (by
   rw [q3, hR, show E.toNat - i = (E.toNat - (i + 1)) + 1 by omega, Nat.pow_succ]; ac_rfl))
  have hi2 : wrap64 ((i : Int) + 1) = ((i + 1 : Nat) : Int) := w64s zo
  exact Ev.step (fun k => hl0 k a _) (ev_if hlt (Ev.bind r1 (by rw [hi2]; exact h')))
open CQ in
theorem nearE_any {A B : Nat} {E : Int} (hB : 0 < B) : ∃ w, NearE A B E w := nearU_any (Nat.mul_pos hB (pow_pos _))
theorem ten_two (k : Nat) : 10 ^ k ≤ 2 ^ (4 * k) := by
 rw [Nat.pow_mul]; exact Nat.pow_le_pow_left (by decide) k
open CQ in
theorem spec_near (s : ByteArray) (hs : s.size ≤ 140737488351232) (E : Int) : ∃ w : Nat, Ev (fun k => spec_Nearest.f k s E) (w : Int) ∧ (nearOk s E = false → w = 0) ∧ (nearOk s E = true → NearE (valD s.data.toList * 10 ^ E.toNat) (10 ^ (-E).toNat) 0 w) := by
 have hj : ∀ k b, spec_Nearest.j0 (k + 1) s E b = if b = true then some 0 else ((spec_l07Bin.f k s).bind fun t187 => spec_Nearest.l0 k E t187 [1] 0) := fun _ _ => rfl
 have hbad : Ev (fun k => spec_Nearest.j0 k s E true) ((0 : Nat) : Int) := Ev.step (f := fun _ => some ((0 : Nat) : Int)) (fun k => by rw [hj, if_pos rfl]; rfl) (Ev.now _)
 have hf := spec_fig s hs
 unfold spec_Nearest.f
 cases h1 : figOk s with
 | false =>
  rw [h1] at hf
  exact ⟨0, Ev.bind hf (ev_else (by decide) hbad), fun _ => rfl, fun h => by unfold nearOk at h; rw [h1] at h; simp at h⟩
 | true =>
  rw [h1] at hf
  by_cases h2 : s.size ≤ 60
  ·by_cases h3 : -500 ≤ E ∧ E ≤ 500
   ·have hz := zero_ev s h1
    by_cases h4 : bt s 0 = 48
    ·rw [decide_eq_true h4] at hz
     refine ⟨0, Ev.bind hf (ev_if rfl (ev_else zo (Ev.bind (ev_const (spec_in E (-500) 500)) (ev_if (decide_eq_true h3) (Ev.bind hz hbad))))), fun _ => rfl, fun h => ?_⟩
     unfold nearOk at h; rw [decide_eq_true h4] at h; simp at h
    ·rw [decide_eq_false h4] at hz
     obtain ⟨k1, k2, k3, k4⟩ := figOk_parts s h1
     obtain ⟨A, a1, a2, a3, a4⟩ := bin_ev s zo k3
     have hAv : nv A = valD s.data.toList := by have := nv_val a2; omega
     have hlt := valD_lt _ k3
     rw [size_data] at hlt
     have hpos : 0 < valD s.data.toList := by
      have h5 := figOk_dec s h1
      rcases Nat.eq_zero_or_pos (valD s.data.toList) with h6 | h6
      ·exfalso; rw [h6] at h5; rw [← h5] at h4; exact h4 rfl
      ·exact h6
     have h60 : valD s.data.toList < 2 ^ 240 := Nat.lt_of_lt_of_le hlt (Nat.le_trans (ten_two _) (Nat.pow_le_pow_right zo zo))
     have hp1 := ten_two E.toNat
     have hp2 := ten_two (-E).toNat
     have hone : ok32 [1] := by intro x hx; rw [List.mem_singleton.1 hx]; decide
     have hnv1 : nv [1] = 1 := by unfold nv valI valI; rfl
     -- the word, told ahead
     have key : ∀ A' B', ok32 A' → ok32 B' → A'.length ≤ 560 → B'.length ≤ 501 → nv A' = nv A * 10 ^ E.toNat → nv B' = 1 * 10 ^ (-E).toNat → ∃ w : Nat, Ev (fun k => spec_l07Quotient.f k A' B') (w : Int) ∧ NearE (valD s.data.toList * 10 ^ E.toNat) (10 ^ (-E).toNat) 0 w := by
      intro A' B' o1 o2 l1 l2 v1 v2
      rw [hAv] at v1
      rw [Nat.one_mul] at v2
      have q := quot_ev A' B' o1 o2 zo zo (by rw [v1]; exact Nat.ne_of_gt (Nat.mul_pos hpos (Nat.pow_pos zo))) (by rw [v2]; exact Nat.ne_of_gt (Nat.pow_pos zo))
       (by
        rw [v1]
        refine Nat.lt_of_lt_of_le (Nat.mul_lt_mul_of_lt_of_le h60 hp1 (Nat.pow_pos zo)) ?_
        rw [← Nat.pow_add]; exact T2400_ge _ zo)
       (by rw [v2]; exact Nat.lt_of_le_of_lt hp2 (Nat.lt_of_lt_of_le (Nat.pow_lt_pow_right (show 1 < 2 by omega) (show 4 * (-E).toNat < 4 * (-E).toNat + 1 by omega)) (T2400_ge _ zo)))
      rw [v1, v2] at q
      exact q
     obtain ⟨w, hw⟩ := nearE_any (A := valD s.data.toList * 10 ^ E.toNat) (B := 10 ^ (-E).toNat) (E := 0) (Nat.pow_pos zo)
     have hmain : Ev (fun k => spec_Nearest.j0 k s E false) (w : Int) := by
      refine Ev.step (fun k => by rw [hj, if_neg (by decide)]) (Ev.bind a1 ?_)
      refine near_l0 E h3.1 h3.2 [1] w E.toNat 0 A zo zo a2 zo (fun A' o1 l1 v1 => ?_)
      refine near_l1 E h3.1 h3.2 A' w (-E).toNat 0 [1] zo zo hone (by simp) (fun B' o2 l2 v2 => ?_)
      obtain ⟨w', e1, e2⟩ := key A' B' o1 o2 l1 l2 (by rw [v1, Nat.sub_zero]) (by rw [v2, hnv1, Nat.sub_zero])
      rw [nearE_one hw e2]
      exact e1
     refine ⟨w, Ev.bind hf (ev_if rfl (ev_else zo (Ev.bind (ev_const (spec_in E (-500) 500)) (ev_if (decide_eq_true h3) (Ev.bind hz hmain))))), fun h => ?_, fun _ => hw⟩
     unfold nearOk at h; rw [h1, decide_eq_true h2, decide_eq_true h3, decide_eq_false h4] at h; simp at h
   ·refine ⟨0, Ev.bind hf (ev_if rfl (ev_else zo (Ev.bind (ev_const (spec_in E (-500) 500)) (ev_else (by rw [decide_eq_false h3]; decide) hbad)))), fun _ => rfl, fun h => ?_⟩
    unfold nearOk at h; rw [decide_eq_false h3] at h; simp at h
  ·refine ⟨0, Ev.bind hf (ev_if rfl (ev_if zo hbad)), fun _ => rfl, fun h => ?_⟩
   unfold nearOk at h; rw [decide_eq_false h2] at h; simp at h
theorem spec_limbs_l1 (s : ByteArray) (hs : s.size ≤ 100000) (hd : ∀ b ∈ s.data.toList, isDg b) (out : List Int) (hout : out.length ≤ 20000) (e fr : Nat) (hfe : fr ≤ e) (he : e ≤ s.size) (h9 : e - fr ≤ 9) (r : List Int) :
  ∀ (d i : Nat) (x : Int), e - i = d → fr ≤ i → i ≤ e → 0 ≤ x → x < 10 ^ (i - fr) → ((valD (s.data.toList.take i) : Nat) : Int) = 10 ^ (i - fr) * ((valD (s.data.toList.take fr) : Nat) : Int) + x →
  (∀ y : Int, 0 ≤ y → y < E9 → ((valD (s.data.toList.take e) : Nat) : Int) = 10 ^ (e - fr) * ((valD (s.data.toList.take fr) : Nat) : Int) + y → Ev (fun k => spec_l06Limbs.l0 k s (out ++ [y]) ((e : Int) - 9)) r) →
  Ev (fun k => spec_l06Limbs.l1 k s out (e : Int) x (i : Int)) r := by
 have hpw : ∀ j : Nat, j ≤ 9 → (10 : Int) ^ j ≤ 1000000000 := by
  intro j hj
  rw [show (10 : Int) ^ j = ((10 ^ j : Nat) : Int) by rw [Int.natCast_pow]; rfl]
  have := Nat.pow_le_pow_right (n := 10) zo hj
  omega
 intro d
 induction d with
 | zero =>
  intro i x hd2 hi1 hi2 hx0 hx1 hv hc
  obtain rfl : i = e := by omega
  have := hpw (i - fr) h9
  refine Ev.step (fun k => ?_) (hc x hx0 (by unfold E9; omega) hv)
  simp only [spec_l06Limbs.l1]
  rw [if_neg zo, if_pos zo, w64 zo zo]
 | succ d ih =>
  intro i x hd2 hi1 hi2 hx0 hx1 hv hc
  have hlt : i < s.size := by omega
  have hb := bt_list s i hlt
  have hdg := hd _ (List.getElem_mem (l := s.data.toList) (n := i) (by simpa using hlt))
  unfold isDg at hdg
  have htk := List.take_succ_eq_append_getElem (l := s.data.toList) (i := i) (by simpa using hlt)
  generalize s.data.toList[i]'(by simpa using hlt) = b at *
  have hp1 := hpw (i - fr) zo
  have hps : (10 : Int) ^ (i + 1 - fr) = 10 ^ (i - fr) * 10 := by rw [show i + 1 - fr = (i - fr) + 1 by omega, Int.pow_succ]
  have h' := ih (i + 1) (10 * x + ((b.toNat : Int) - 48)) zo zo zo zo (by
   rw [hps]
   generalize (10 : Int) ^ (i - fr) = q at *
   omega) (by
   rw [htk, valD_snoc, hps, show ((10 * valD (s.data.toList.take i) + (b.toNat - 48) : Nat) : Int) = 10 * ((valD (s.data.toList.take i) : Nat) : Int) + ((b.toNat : Int) - 48) by omega, hv]
   grind) hc
  refine Ev.step (fun k => ?_) h'
  simp only [spec_l06Limbs.l1]
  rw [if_pos zo, if_pos zo, if_pos zo, hb, w64 (x := 10 * x) zo zo, w64 (x := (b.toNat : Int)) zo zo, w64 (x := 10 * x + (b.toNat : Int)) zo zo, w64 (x := 10 * x + (b.toNat : Int) - 48) zo zo, w64s zo,
   show 10 * x + (b.toNat : Int) - 48 = 10 * x + ((b.toNat : Int) - 48) by omega]
theorem spec_limbs_l0 (s : ByteArray) (hs : s.size ≤ 100000) (hd : ∀ b ∈ s.data.toList, isDg b) : ∀ (n e : Nat) (out : List Int), e ≤ 9 * n → e ≤ s.size → out.length ≤ 12000 → out.length * 9 + e ≤ s.size + 9 → (∀ x ∈ out, 0 ≤ x ∧ x < E9) → ((valD s.data.toList : Nat) : Int) = valI E9 out + E9 ^ out.length * ((valD (s.data.toList.take e) : Nat) : Int) →
  ∃ L : List Int, (∀ z : Int, z = (e : Int) → Ev (fun k => spec_l06Limbs.l0 k s out z) L) ∧ (∀ x ∈ L, 0 ≤ x ∧ x < E9) ∧ valI E9 L = ((valD s.data.toList : Nat) : Int) ∧ L.length ≤ out.length + (e + 8) / 9 ∧ (1 ≤ e → (e + 8) / 9 + out.length ≤ L.length) := by
 intro n
 have hzero : ∀ (out : List Int), (∀ z : Int, z ≤ 0 → Ev (fun k => spec_l06Limbs.l0 k s out z) out) := by
  intro out z hz
  exact Ev.step (f := fun _ => some out) (fun k => by simp only [spec_l06Limbs.l0]; rw [if_neg zo]) (Ev.now _)
 induction n with
 | zero =>
  intro e out he _ _ _ ho hv
  obtain rfl : e = 0 := by omega
  refine ⟨out, fun z hz => hzero out z zo, ho, ?_, by omega, by omega⟩
  rw [hv]; simp [valD]
 | succ n ih =>
  intro e out he hes hol hbal ho hv
  by_cases h0 : e = 0
  ·subst h0
   refine ⟨out, fun z hz => hzero out z zo, ho, ?_, by omega, by omega⟩
   rw [hv]; simp [valD]
  ·-- one more limb
   have hj : ∀ (k : Nat) (fr : Int), spec_l06Limbs.j1 (k + 1) s out (e : Int) fr = spec_l06Limbs.l1 k s out (e : Int) 0 fr := fun _ _ => rfl
   by_cases h9 : e < 9
   ·-- the last one
    have hy : ((valD (s.data.toList.take e) : Nat) : Int) < E9 := by
     have h1 := valD_lt (s.data.toList.take e) (fun b hb => hd b (List.mem_of_mem_take hb))
     have h2 : (s.data.toList.take e).length = e := by rw [List.length_take, size_data]; omega
     rw [h2] at h1
     have := Nat.pow_le_pow_right (n := 10) zo (show e ≤ 9 by omega)
     unfold E9; omega
    refine ⟨out ++ [((valD (s.data.toList.take e) : Nat) : Int)], ?_, ?_, ?_, ?_, ?_⟩
    ·intro z hz
     subst hz
     have h1 := spec_limbs_l1 s hs hd out zo e 0 zo hes zo (out ++ [((valD (s.data.toList.take e) : Nat) : Int)]) e 0 0 zo zo zo zo (by show (0 : Int) < 10 ^ (0 - 0); decide) (by simp [valD]) (by
      intro y _ _ hy3
      have : y = ((valD (s.data.toList.take e) : Nat) : Int) := by
       rw [hy3]; simp [valD]
      rw [this]
      exact hzero _ _ zo)
     exact Ev.step (f := fun k => spec_l06Limbs.j1 k s out (e : Int) 0) (fun k => by simp only [spec_l06Limbs.l0]; rw [if_pos zo, w64 zo zo, if_pos zo]) (Ev.step (fun k => by rw [hj]; rfl) h1)
    ·intro x hx
     rcases List.mem_append.1 hx with h | h
     ·exact ho x h
     ·rw [List.mem_singleton.1 h]; exact ⟨by omega, hy⟩
    ·rw [valI_append, hv]; simp [valI]
    ·simp; omega
    ·intro _; simp; omega
   ·-- nine figures
    obtain ⟨c, rfl⟩ : ∃ c, e = c + 9 := ⟨e - 9, by omega⟩
    have hE : (10 : Int) ^ (c + 9 - c) = E9 := by rw [show c + 9 - c = 9 by omega]; rfl
    -- the limb itself
    obtain ⟨y, hy0, hy1, hyv⟩ : ∃ y : Int, 0 ≤ y ∧ y < E9 ∧ ((valD (s.data.toList.take (c + 9)) : Nat) : Int) = E9 * ((valD (s.data.toList.take c) : Nat) : Int) + y := by
     have hsp : s.data.toList.take (c + 9) = s.data.toList.take c ++ (s.data.toList.drop c).take 9 := by rw [List.take_add]
     have hlen : ((s.data.toList.drop c).take 9).length = 9 := by rw [List.length_take, List.length_drop, size_data]; omega
     have hdg2 : ∀ b ∈ (s.data.toList.drop c).take 9, isDg b := fun b hb => hd b (List.mem_of_mem_drop (List.mem_of_mem_take hb))
     refine ⟨((valD ((s.data.toList.drop c).take 9) : Nat) : Int), by omega, ?_, ?_⟩
     ·have := valD_lt _ hdg2
      rw [hlen] at this
      unfold E9; omega
     ·rw [hsp]
      have h1 : valD (s.data.toList.take c ++ (s.data.toList.drop c).take 9) = valD (s.data.toList.take c) * 10 ^ 9 + valD ((s.data.toList.drop c).take 9) := by
       have := valD_foldl ((s.data.toList.drop c).take 9) (valD (s.data.toList.take c))
       rw [hlen] at this
       rw [← this]
       show valD _ = _
       unfold valD
       rw [List.foldl_append]
      rw [h1]
      unfold E9
      omega
    have hvn : ((valD s.data.toList : Nat) : Int) = valI E9 (out ++ [y]) + E9 ^ (out ++ [y]).length * ((valD (s.data.toList.take c) : Nat) : Int) := by
     rw [hv, valI_append, hyv]
     simp only [valI, List.length_append, List.length_cons, List.length_nil, Nat.zero_add, Int.pow_succ]
     grind
    obtain ⟨L, h1, h2, h3, h4, h5⟩ := ih c (out ++ [y]) zo zo (by simp; omega) (by simp; omega) (by
     intro x hx
     rcases List.mem_append.1 hx with h | h
     ·exact ho x h
     ·rw [List.mem_singleton.1 h]; exact ⟨hy0, hy1⟩) hvn
    refine ⟨L, ?_, h2, h3, ?_, ?_⟩
    ·intro z hz
     subst hz
     have hl1 := spec_limbs_l1 s hs hd out zo (c + 9) c zo hes zo L (c + 9 - c) c 0 zo zo zo zo (by rw [Nat.sub_self]; decide) (by rw [Nat.sub_self]; simp) (by
      intro y' _ _ hy3
      rw [hE, hyv] at hy3
      have : y' = y := by omega
      rw [this]
      exact h1 _ zo)
     refine Ev.step (f := fun k => spec_l06Limbs.j1 k s out ((c + 9 : Nat) : Int) (c : Int)) (fun k => ?_) (Ev.step (fun k => by rw [hj]) hl1)
     simp only [spec_l06Limbs.l0]
     rw [if_pos zo, w64 zo zo, if_neg zo, show ((c + 9 : Nat) : Int) - 9 = (c : Int) by omega]
    ·simp at h4; omega
    ·intro _
     by_cases hc : 1 ≤ c
     ·have := h5 hc; simp at this; omega
     ·have hlL : out.length + 1 ≤ L.length := by
       have hc0 : c = 0 := by omega
       subst hc0
       have hle : (out ++ [y]).length = out.length + 1 := by simp
       have := h1 0 rfl
       have hz := hzero (out ++ [y]) 0 zo
       obtain ⟨K1, hK1⟩ := this
       obtain ⟨K2, hK2⟩ := hz
       have q1 := hK1 (max K1 K2) zo
       have q2 := hK2 (max K1 K2) zo
       have : L = out ++ [y] := by rw [q1] at q2; exact Option.some.inj q2
       rw [this, hle]
       omega
      omega
theorem spec_limbs (s : ByteArray) (hs : s.size ≤ 100000) (hd : ∀ b ∈ s.data.toList, isDg b) :
  ∃ L : List Int, Ev (fun k => spec_l06Limbs.f k s) L ∧ (∀ x ∈ L, 0 ≤ x ∧ x < E9) ∧ valI E9 L = ((valD s.data.toList : Nat) : Int) ∧ L.length ≤ (s.size + 8) / 9 ∧ (1 ≤ s.size → (s.size + 8) / 9 ≤ L.length) := by
 obtain ⟨L, h1, h2, h3, h4, h5⟩ := spec_limbs_l0 s hs hd s.size s.size [] zo zo (by simp) (by simp) (by simp) (by rw [List.take_of_length_le (by rw [size_data]; omega)]; simp [valI])
 refine ⟨L, ?_, h2, h3, by simpa using h4, by simpa using h5⟩
 unfold spec_l06Limbs.f
 exact h1 _ rfl
theorem spec_add_l0 (A C : List Int) (hA : ∀ x ∈ A, 0 ≤ x ∧ x < E9) (hC : ∀ x ∈ C, 0 ≤ x ∧ x < E9) (hlA : A.length ≤ 2000) (hlC : C.length ≤ 2000) : ∀ (d i : Nat) (out : List Int) (c : Int), 2001 - i = d → i ≤ 2001 → out.length = i → (∀ x ∈ out, 0 ≤ x ∧ x < E9) → (c = 0 ∨ c = 1) → valI E9 out + E9 ^ i * c = valI E9 (A.take i) + valI E9 (C.take i) → (i = 2001 → c = 0) →
  ∃ L : List Int, Ev (fun k => spec_l06Add.l0 k A C out c (i : Int)) L ∧ (∀ x ∈ L, 0 ≤ x ∧ x < E9) ∧ valI E9 L = valI E9 A + valI E9 C ∧ L.length ≤ 2001 := by
 have hl : ∀ (k : Nat) (out : List Int) (c : Int) (i : Nat), spec_l06Add.l0 (k + 1) A C out c (i : Int) = if (i : Int) < (A.length : Int) then (spec_l06Add.j1 k A C out c (i : Int) true) else (if (i : Int) < (C.length : Int) then (spec_l06Add.j1 k A C out c (i : Int) true) else (spec_l06Add.j1 k A C out c (i : Int) (decide (c > 0)))) := fun _ _ _ _ => rfl
 have hj : ∀ (k : Nat) (out : List Int) (c : Int) (i : Nat) (z : Bool), spec_l06Add.j1 (k + 1) A C out c (i : Int) z = if z = true then ((spec_l06At.f A (i : Int)).bind fun t118 => ((spec_l06At.f C (i : Int)).bind fun t119 => (if out.length < 17592186044416 then (spec_l06Add.l0 k A C (out ++ [Int.tmod (wrap64 ((wrap64 (t118 + t119)) + c)) 1000000000]) (wrap64 (Int.tdiv (wrap64 ((wrap64 (t118 + t119)) + c)) 1000000000)) (wrap64 ((i : Int) + 1))) else (none)))) else (some out) := fun _ _ _ _ _ => rfl
 have hstop : ∀ (i : Nat) (out : List Int), out.length = i → i ≤ 2001 → (∀ x ∈ out, 0 ≤ x ∧ x < E9) → ¬ i < A.length → ¬ i < C.length → valI E9 out + E9 ^ i * 0 = valI E9 (A.take i) + valI E9 (C.take i) →
   ∃ L : List Int, Ev (fun k => spec_l06Add.l0 k A C out 0 (i : Int)) L ∧ (∀ x ∈ L, 0 ≤ x ∧ x < E9) ∧ valI E9 L = valI E9 A + valI E9 C ∧ L.length ≤ 2001 := by
  intro i out hol hi2 ho h1 h2 hv
  rw [List.take_of_length_le zo, List.take_of_length_le zo, Int.mul_zero, Int.add_zero] at hv
  refine ⟨out, ?_, ho, hv, by omega⟩
  exact Ev.step (f := fun k => spec_l06Add.j1 k A C out 0 (i : Int) false) (fun k => by rw [hl, if_neg zo, if_neg zo]; rfl) (Ev.step (f := fun _ => some out) (fun k => by rw [hj, if_neg (by simp)]) (Ev.now _))
 intro d
 induction d with
 | zero =>
  intro i out c hd hi hol ho hc hv hz
  have hi' : i = 2001 := by omega
  obtain rfl := hz hi'
  exact hstop i out hol hi ho zo zo hv
 | succ d ih =>
  intro i out c hd hi hol ho hc hv hz
  by_cases hstp : i < A.length ∨ i < C.length ∨ c = 1
  ·have ha := getD_range E9 (by decide) A hA i
   have hcc := getD_range E9 (by decide) C hC i
   have hE : E9 = 1000000000 := rfl
   generalize hx : A.getD i 0 + C.getD i 0 + c = x
   have hx0 : 0 ≤ x ∧ x < 2000000000 := by omega
   have hvA := valI_take_succ' E9 A i
   have hvC := valI_take_succ' E9 C i
   obtain ⟨L, h1, h2⟩ := ih (i + 1) (out ++ [x % 1000000000]) (x / 1000000000) zo zo (by simp; omega) (by
    intro y hy
    rcases List.mem_append.1 hy with h | h
    ·exact ho y h
    ·rw [List.mem_singleton.1 h]; omega) zo (by
    rw [valI_append, hol, hvA, hvC, Int.pow_succ]
    simp only [valI]
    have hxx : x = 1000000000 * (x / 1000000000) + x % 1000000000 := by omega
    rw [hE] at hv ⊢
    generalize (1000000000 : Int) ^ i = P at hv ⊢
    have q1 : P * x = P * A.getD i 0 + P * C.getD i 0 + P * c := by rw [← hx, Int.mul_add, Int.mul_add]
    have q2 : P * x = 1000000000 * (P * (x / 1000000000)) + P * (x % 1000000000) := by
     conv => lhs; rw [hxx]
     rw [Int.mul_add, Int.mul_left_comm]
    have q3 : P * 1000000000 * (x / 1000000000) = 1000000000 * (P * (x / 1000000000)) := by rw [Int.mul_assoc, Int.mul_left_comm]
    rw [Int.mul_zero, Int.add_zero, q3]
    omega) (by
    intro h
    have hAi : A.getD i 0 = 0 := getD_out A i zo
    have hCi : C.getD i 0 = 0 := getD_out C i zo
    omega)
   refine ⟨L, ?_, h2⟩
   have hstep : ∀ k, spec_l06Add.l0 (k + 1) A C out c (i : Int) = spec_l06Add.j1 k A C out c (i : Int) true := by
    intro k
    rw [hl]
    by_cases h3 : i < A.length
    ·rw [if_pos zo]
    ·rw [if_neg zo]
     by_cases h4 : i < C.length
     ·rw [if_pos zo]
     ·rw [if_neg zo, decide_eq_true zo]
   refine Ev.step hstep (Ev.step (fun k => ?_) h1)
   rw [hj, if_pos rfl, spec_at, spec_at]
   simp only [Option.bind_some]
   rw [if_pos zo, w64 (x := A.getD i 0 + C.getD i 0) zo zo, hx, w64 (x := x) zo zo, tmodN hx0.1, tdivN hx0.1, w64 (x := x / 1000000000) zo zo, w64s zo]
  ·obtain rfl : c = 0 := by omega
   exact hstop i out hol hi ho zo zo hv
theorem spec_add (A C : List Int) (hA : ∀ x ∈ A, 0 ≤ x ∧ x < E9) (hC : ∀ x ∈ C, 0 ≤ x ∧ x < E9) (hlA : A.length ≤ 2000) (hlC : C.length ≤ 2000) :
  ∃ L : List Int, Ev (fun k => spec_l06Add.f k A C) L ∧ (∀ x ∈ L, 0 ≤ x ∧ x < E9) ∧ valI E9 L = valI E9 A + valI E9 C ∧ L.length ≤ 2001 := by
 unfold spec_l06Add.f
 exact spec_add_l0 A C hA hC hlA hlC 2001 0 [] 0 rfl zo rfl (by simp) (.inl rfl) (by simp [valI]) zo
theorem fig_limbs (a : ByteArray) (h : figOk a = true) : ∃ L : List Int, Ev (fun k => spec_l06Limbs.f k a) L ∧ (∀ x ∈ L, 0 ≤ x ∧ x < E9) ∧ valI E9 L = ((valD a.data.toList : Nat) : Int) ∧ L.length = (a.size + 8) / 9 ∧ L.length ≤ 89 ∧ 1 ≤ L.length := by
 obtain ⟨a1, a2, a3, _⟩ := figOk_parts a h
 obtain ⟨L, h1, h2, h3, h4, h5⟩ := spec_limbs a zo a3
 have := h5 a1
 exact ⟨L, h1, h2, h3, by omega, by omega, by omega⟩
def addG (a b : ByteArray) : ByteArray × Bool := if figOk a = true ∧ figOk b = true then fitsT (valD a.data.toList + valD b.data.toList) else (⟨#[]⟩, false)
theorem spec_greatAdd (a b : ByteArray) (hsa : a.size ≤ 140737488351232) (hsb : b.size ≤ 140737488351232) : Ev (fun k => spec_GreatAdd.f k a b) (addG a b) := by
 have hj : ∀ (k : Nat) (z : Bool), spec_GreatAdd.j0 (k + 1) a b z = if z = true then (some ((⟨#[]⟩ : ByteArray), false)) else ((spec_l06Limbs.f k a).bind fun t125 => ((spec_l06Limbs.f k b).bind fun t128 => ((spec_l06Add.f k t125 t128).bind fun t131 => ((spec_l06Text.f k t131).bind fun t134 => ((spec_l06Fits.f t134).bind fun bt135 => (some (bt135.1, bt135.2))))))) := fun _ _ => rfl
 have hbad : addG a b = (⟨#[]⟩, false) → Ev (fun k => spec_GreatAdd.j0 k a b true) (addG a b) := by
  intro h; rw [h]
  exact Ev.step (f := fun _ => some (⟨#[]⟩, false)) (fun k => by rw [hj, if_pos rfl]) (Ev.now _)
 unfold spec_GreatAdd.f
 refine Ev.bind (spec_fig a hsa) ?_
 by_cases h1 : figOk a = true
 ·simp only [h1, if_true]
  refine Ev.bind (spec_fig b hsb) ?_
  by_cases h2 : figOk b = true
  ·rw [h2]
   have e : addG a b = fitsT (valD a.data.toList + valD b.data.toList) := by unfold addG; rw [if_pos ⟨h1, h2⟩]
   obtain ⟨A, hA, hA9, hAv, _, hAl, _⟩ := fig_limbs a h1
   obtain ⟨C, hC, hC9, hCv, _, hCl, _⟩ := fig_limbs b h2
   obtain ⟨L, hL, hL9, hLv, hLl⟩ := spec_add A C hA9 hC9 zo zo
   have ht := spec_text L zo hL9
   rw [hLv, hAv, hCv, show (((valD a.data.toList : Nat) : Int) + ((valD b.data.toList : Nat) : Int)).toNat = valD a.data.toList + valD b.data.toList by omega] at ht
   rw [e]
   refine Ev.step (fun k => by rw [hj, if_neg (by simp)]) (Ev.bind hA (Ev.bind hC (Ev.bind hL (Ev.bind ht ?_))))
   rw [spec_fits]
   exact Ev.now _
  ·rw [Bool.not_eq_true] at h2
   rw [h2]
   exact hbad (by unfold addG; rw [if_neg (fun hh => by rw [h2] at hh; exact absurd hh.2 (by simp))])
 ·simp only [if_neg h1]
  exact hbad (by unfold addG; rw [if_neg (fun hh => h1 hh.1)])
theorem decN_figOk (v : Nat) (h : (decN v).size ≤ 800) : figOk (decN v) = true := by rw [figOk_decN, decide_eq_true h]
theorem decN_first (v : Nat) (h : v ≠ 0) : bt (decN v) 0 ≠ 48 := by
 intro h48
 have h1 := decN_lead v
 have h2 : (decN v).size = 1 := by
  have h3 := decN_pos v
  rcases Nat.lt_or_ge 1 (decN v).size with h4 | h4
  ·exact absurd ⟨h48, h4⟩ h1
  ·omega
 have h5 : v < 10 ^ 1 := (decN_size v 1 zo).1 zo
 have h6 := decN_data v
 rw [if_neg h, dgL_pos v h, show v / 10 = 0 by omega, dgL_zero, List.nil_append] at h6
 have h7 := bt_list (decN v) 0 zo
 have h8 : (decN v).data.toList[0]? = some (UInt8.ofNat (48 + v % 10)) := by rw [h6]; rfl
 rw [List.getElem?_eq_getElem (by rw [size_data]; omega)] at h8
 rw [Option.some.inj h8] at h7
 have h9 : (UInt8.ofNat (48 + v % 10)).toNat = 48 + v % 10 := by simp; omega
 rw [h9] at h7
 have h10 : bt (decN v) ((0 : Nat) : Int) = 48 := h48
 omega
theorem nearOk_decN {v : Nat} {E : Int} (h0 : v ≠ 0) (h1 : (decN v).size ≤ 60) (h2 : -500 ≤ E) (h3 : E ≤ 500) : nearOk (decN v) E = true := by
 unfold nearOk
 rw [decN_figOk v zo, decide_eq_true h1, decide_eq_true ⟨h2, h3⟩, decide_eq_false (decN_first v h0)]; rfl
theorem decN_end (v : Nat) (h : v ≠ 0) : bt (decN v) (((decN v).size - 1 : Nat) : Int) = 48 + ((v % 10 : Nat) : Int) := by
 have h1 := decN_pos v
 rw [bt_list (decN v) ((decN v).size - 1) zo]
 have hd : (decN v).data.toList = dgL (v / 10) ++ [UInt8.ofNat (48 + v % 10)] := by rw [decN_data, if_neg h, dgL_pos v h]
 have hl : (dgL (v / 10)).length = (decN v).size - 1 := by
  have := congrArg List.length hd
  rw [List.length_append, size_data] at this
  simp at this
  omega
 have he : (decN v).data.toList[(decN v).size - 1]? = some (UInt8.ofNat (48 + v % 10)) := by
  rw [hd, List.getElem?_append_right zo, hl, Nat.sub_self]; rfl
 rw [List.getElem?_eq_getElem (by rw [size_data]; omega)] at he
 rw [Option.some.inj he]
 have : (UInt8.ofNat (48 + v % 10)).toNat = 48 + v % 10 := by simp; omega
 rw [this]; omega
theorem near_word {L y : Nat} {K : Int} (h0 : L ≠ 0) (hs : (decN L).size ≤ 60) (hK : -500 ≤ K) (hK2 : K ≤ 500) : ∃ w : Nat, Ev (fun k => spec_Nearest.f k (decN L) K) (w : Int) ∧ (w = y ↔ HD.Reads y K L) := by
 obtain ⟨w, h1, _, h3⟩ := spec_near (decN L) zo K
 have h4 := h3 (nearOk_decN h0 hs hK hK2)
 rw [valD_decN] at h4
 refine ⟨w, h1, fun h => ?_, fun h => CQ.nearE_one h4 h⟩
 subst h
 exact h4
theorem one_more {L : Nat} (hs : (decN (L + 1)).size ≤ 60) : Ev (fun k => spec_GreatAdd.f k (decN L) (⟨#[49]⟩ : ByteArray)) (decN (L + 1), true) := by
 have hsL : (decN L).size ≤ 60 := (decN_size L 60 zo).2 (by have := (decN_size (L + 1) 60 zo).1 hs; omega)
 have h := spec_greatAdd (decN L) (⟨#[49]⟩ : ByteArray) zo (by decide)
 have e : addG (decN L) (⟨#[49]⟩ : ByteArray) = (decN (L + 1), true) := by
  unfold addG
  rw [if_pos ⟨decN_figOk L zo, by decide⟩, valD_decN, show valD (⟨#[49]⟩ : ByteArray).data.toList = 1 from by decide]
  unfold fitsT
  rw [if_pos zo]
 rw [e] at h
 exact h
theorem short_law_j0 (k : Nat) (x6 : Int) (x7 : ByteArray) (x8 : Int) (x54 : Bool) : laws_FnShortest.j0 (k + 1) x6 x7 x8 x54 = if x54 = true then (some false) else (if (x7.size : Int) = 1 then (some true) else (if 0 ≤ (wrap64 ((x7.size : Int) - 1)) then (if (wrap64 ((x7.size : Int) - 1)) ≤ (x7.size : Int) then ((spec_GreatAdd.f k (x7.extract 0 ((wrap64 ((x7.size : Int) - 1)) : Int).toNat) (⟨#[49]⟩ : ByteArray)).bind fun bt348 => ((spec_Nearest.f k (x7.extract 0 ((wrap64 ((x7.size : Int) - 1)) : Int).toNat) (wrap64 (x8 + 1))).bind fun t350 => (if t350 = x6 then (some false) else ((spec_Nearest.f k bt348.1 (wrap64 (x8 + 1))).bind fun t351 => (some (t351 != x6)))))) else (none)) else (none))) := rfl
theorem near_given (s : ByteArray) (E : Int) (hs : s.size ≤ 140737488351232) : impl_Nearest.f s E = some ((G.nearW s E : Nat) : Int) := by
 unfold impl_Nearest.f G.impl_Nearest; rw [if_pos hs]
section
open SF HD CQ
theorem short_all {x U : Nat} {f : Int} (hb : Best x U f) : Ev (fun k => laws_FnShortest.j0 k (x : Int) (decN U) f false) true := by
 obtain ⟨h1, h2, h3, h4, h5, h6⟩ := hb
 have hpos := decN_pos U
 have h17 : (decN U).size ≤ 17 := (decN_size U 17 zo).2 h3
 refine Ev.step (fun k => short_law_j0 k ..) (ev_else (by decide) ?_)
 by_cases c : (decN U).size = 1
 ·exact ev_if zo (Ev.now _)
 ·have h10 : 10 ≤ U := by
   rcases Nat.lt_or_ge U 10 with h | h
   ·have := (decN_size U 1 zo).2 zo
    omega
   ·exact h
  have hs1 : (decN (U / 10 + 1)).size ≤ 60 := (decN_size (U / 10 + 1) 60 zo).2 zo
  have hs0 : (decN (U / 10)).size ≤ 60 := (decN_size (U / 10) 60 zo).2 zo
  obtain ⟨v, v1, v2⟩ := near_word (L := U / 10) (y := x) (K := f + 1) zo hs0 zo zo
  obtain ⟨w, w1, w2⟩ := near_word (L := U / 10 + 1) (y := x) (K := f + 1) zo hs1 zo zo
  have hv : ¬ v = x := fun h => h6 _ _ zo (v2.1 h)
  have hw : ¬ w = x := fun h => h6 _ _ zo (w2.1 h)
  have hc := decN_cut U h10
  have ho := one_more hs1
  have e1 : wrap64 (((decN U).size : Int) - 1) = (((decN U).size - 1 : Nat) : Int) := by rw [w64 zo zo]; omega
  have e2 : wrap64 (f + 1) = f + 1 := w64 zo zo
  rw [e1, e2, Int.toNat_natCast, hc]
  clear e1 e2
  refine ev_else zo (ev_if zo (ev_if zo (Ev.bind ho (Ev.bind v1 (ev_else zo (Ev.bind w1 ?_))))))
  have hne : (((w : Nat) : Int) != ((x : Nat) : Int)) = true := by
   rw [bne_iff_ne]
   omega
  rw [hne]
  exact Ev.now _
end
theorem FnShortest : laws_FnShortest.Pure := by
 intro l hl1 hl2 _
 unfold laws_FnShortest.f laws_big.f
 simp only [Option.bind_some]
 by_cases hb : (l.length : Int) > 1048576
 ·exact ⟨0, by rw [if_pos (by simpa using hb)]⟩
 obtain ⟨a, b, c, hd, ha, _, _⟩ := spec_numbers l zo
 have hma : Int.tmod (a : Int) 9223372036854775808 = ((a % 9223372036854775808 : Nat) : Int) := by rw [tmodN zo]; omega
 refine Ev.rounds (ev_else (by simpa using hb) (Ev.bind hd ?_))
 simp only [hma]
 have hx : a % 9223372036854775808 < 9223372036854775808 := Nat.mod_lt _ zo
 clear hd hma
 generalize a % 9223372036854775808 = x at hx
 have hx2 : x < 18446744073709551616 := by omega
 have hmt : (⟨#[]⟩ : ByteArray).toList = [] := by rw [ByteArray.toList_eq]
 cases hr : Ieee.double.read x with
 | nan s f => exact Ev.bind (impl_short_bad hx2 hr (by simp [partsR])) (Ev.bind (parts_is hx2 hr) (ev_else (by simp [partsR]) (ev_if hmt (Ev.now _))))
 | infinity s => exact Ev.bind (impl_short_bad hx2 hr (by simp [partsR])) (Ev.bind (parts_is hx2 hr) (ev_else (by simp [partsR]) (ev_if hmt (Ev.now _))))
 | number s M e =>
  by_cases hM : M = 0
  ·subst hM
   exact Ev.bind (impl_short_bad hx2 hr (by simp [partsR])) (Ev.bind (parts_is hx2 hr) (ev_else (by simp [partsR]) (ev_if hmt (Ev.now _))))
  ·have hb := SF.best_of hx2 hr hM
   rw [Nat.mod_eq_of_lt hx] at hb
   have h1 := impl_short hx2 hr hM
   generalize SF.bestU M e = U at *
   generalize SF.bestF M e = f at *
   have hU0 : U ≠ 0 := fun h => hb.last (by rw [h])
   have h17 : (decN U).size ≤ 17 := (decN_size U 17 zo).2 hb.few
   have hpos := decN_pos U
   have hl := hb.low
   have hh := hb.high
   have hw : G.nearW (decN U) f = x := by
    have g := G.nearW_good (nearOk_decN (E := f) hU0 zo zo zo)
    rw [valD_decN] at g
    exact CQ.nearE_one g hb.reads
   have hn := near_given (decN U) f zo
   rw [hw] at hn
   have hend := decN_end U hU0
   have hlast := hb.last
   have hall := short_all hb
   have e1 : wrap64 (((decN U).size : Int) - 1) = (((decN U).size - 1 : Nat) : Int) := by rw [w64 zo zo]; omega
   have e3 : ((bt (decN U) (((decN U).size - 1 : Nat) : Int)) == 48) = false := by
    rw [hend, beq_eq_false_iff_ne]
    omega
   refine Ev.bind h1 (Ev.bind (parts_some hx2 hr hM) (ev_if rfl (Ev.bind (ev_const hn) (ev_if rfl ?_))))
   show Ev (fun k => if ((decN U).size : Int) > 17 then _ else if 0 ≤ wrap64 (((decN U).size : Int) - 1) then _ else _) true
   refine ev_else zo ?_
   show Ev (fun k => if 0 ≤ wrap64 (((decN U).size : Int) - 1) then (if wrap64 (((decN U).size : Int) - 1) < ((decN U).size : Int) then laws_FnShortest.j0 k (x : Int) (decN U) f ((bt (decN U) (wrap64 (((decN U).size : Int) - 1))) == 48) else none) else none) true
   rw [e1, e3]
   clear e1 e3
   exact ev_if zo (ev_if zo hall)
end Go.Proofs.YtkjpelgdppmbjaaGreatDoor.Pure
