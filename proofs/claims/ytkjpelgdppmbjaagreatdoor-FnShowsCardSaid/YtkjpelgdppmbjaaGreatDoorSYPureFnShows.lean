/- What is shown of a drawn number that is not below 0 and is finite reads back as it. No condition but the statement's own. -/
import Derived.Test.YtkjpelgdppmbjaaGreatDoorSYZip
import Derived.Test.YtkjpelgdppmbjaaGreatDoorSYMFnShowsx7
import Derived.Test.YtkjpelgdppmbjaaGreatDoorSYKA
namespace Go.Proofs.YtkjpelgdppmbjaaGreatDoor.Pure
open Go.RowKit MFnShows YtkjpelgdppmbjaaGreatDoorW.PrintWords YtkjpelgdppmbjaaGreatDoorW.PrintLast CB
open Go.Proofs.YtkjpelgdppmbjaaGreatDoor
set_option linter.unusedSimpArgs false
theorem and_low255 (x : Int) : 0 ≤ Go.bits .and .i64 x 255 ∧ Go.bits .and .i64 x 255 ≤ 255 := by
 have e : Go.bits .and .i64 x 255 = wrap64 (((BitVec.ofInt 64 x).toNat &&& 255 : Nat) : Int) := by
  simp only [Go.bits, wi64]
  show wrap64 (((BitVec.ofInt 64 x &&& BitVec.ofInt 64 255).toNat : Int)) = _
  rw [BitVec.toNat_and]
  rfl
 have h : (BitVec.ofInt 64 x).toNat &&& 255 ≤ 255 := Nat.and_le_right
 rw [e, w64 zo zo]
 omega
theorem spec_byte (l : List Int) (i h : Int) (hl : l.length ≤ 140737488351232) (hi : 0 ≤ i) : ∃ v i' h', spec_l01Byte.f l i h = some (v, i', h') ∧ (0 ≤ v ∧ v ≤ 255) ∧ 0 ≤ i' := by
 unfold spec_l01Byte.f
 by_cases h1 : i < (l.length : Int)
 ·rw [if_pos h1, if_pos hi]
  refine ⟨_, _, _, rfl, and_low255 _, ?_⟩
  rw [w64 zo zo]
  omega
 ·rw [if_neg h1]
  exact ⟨_, _, _, rfl, and_low255 _, hi⟩
theorem spec_below (l : List Int) (i h n : Int) (hl : l.length ≤ 140737488351232) (hi : 0 ≤ i) (hn : 0 < n) : ∃ v i' h', spec_l01Below.f l i h n = some (v, i', h') ∧ (0 ≤ v ∧ v < n) ∧ 0 ≤ i' := by
 unfold spec_l01Below.f
 rw [if_neg zo]
 by_cases h1 : n ≤ 256
 ·rw [if_pos h1]
  obtain ⟨v, i', h', e, hv, hi'⟩ := spec_byte l i h hl hi
  rw [e]
  simp only [Option.bind_some]
  rw [if_neg zo, tmodN hv.1]
  exact ⟨_, _, _, rfl, ⟨Int.emod_nonneg _ zo, Int.emod_lt_of_pos _ hn⟩, hi'⟩
 ·rw [if_neg h1]
  obtain ⟨v1, i1, h1, e1, r1, p1⟩ := spec_byte l i h hl hi
  obtain ⟨v2, i2, h2, e2, r2, p2⟩ := spec_byte l i1 h1 hl p1
  obtain ⟨v3, i3, h3, e3, r3, p3⟩ := spec_byte l i2 h2 hl p2
  obtain ⟨v4, i4, h4, e4, r4, p4⟩ := spec_byte l i3 h3 hl p3
  rw [e1]
  simp only [Option.bind_some]
  rw [e2]
  simp only [Option.bind_some]
  rw [e3]
  simp only [Option.bind_some]
  rw [e4]
  simp only [Option.bind_some]
  rw [if_neg zo, w64 (x := v1 * 16777216) zo zo, w64 (x := v2 * 65536) zo zo, w64 (x := v3 * 256) zo zo, w64 (x := v1 * 16777216 + v2 * 65536) zo zo, w64 (x := v1 * 16777216 + v2 * 65536 + v3 * 256) zo zo, w64 zo zo, tmodN zo]
  exact ⟨_, _, _, rfl, ⟨Int.emod_nonneg _ zo, Int.emod_lt_of_pos _ hn⟩, p4⟩
theorem spec_new_l0 (l : List Int) (_hl : l.length ≤ 140737488351232) : ∀ (d i : Nat) (x : Int), 4000 - i = d → i ≤ 4000 → ∃ h, Ev (fun k => spec_l01New.l0 k l x (i : Int)) (l, 0, h) := by
 have hr : ∀ (k i : Nat) (x : Int), spec_l01New.l0 (k + 1) l x (i : Int) = if (i : Int) < (l.length : Int) then (if (i : Int) < 4000 then (if 0 ≤ (i : Int) then (spec_l01New.l0 k l (Go.bits .and .i64 (wrap64 ((wrap64 ((wrap64 (x * 131)) + (wrap64 (rd l i)))) + 7)) 1073741823) (wrap64 ((i : Int) + 1))) else (none)) else (some (l, 0, x))) else (some (l, 0, x)) := fun _ _ _ => rfl
 intro d
 induction d with
 | zero =>
  intro i x hd hi
  refine ⟨x, Ev.step (f := fun _ => some (l, 0, x)) (fun k => ?_) (Ev.now _)⟩
  rw [hr]
  split
  ·rw [if_neg zo]
  ·rfl
 | succ d ih =>
  intro i x hd hi
  by_cases h1 : i < l.length
  ·obtain ⟨h, e⟩ := ih (i + 1) (Go.bits .and .i64 (wrap64 ((wrap64 ((wrap64 (x * 131)) + (wrap64 (rd l i)))) + 7)) 1073741823) zo zo
   exact ⟨h, Ev.step (fun k => by rw [hr, if_pos zo, if_pos zo, if_pos zo, w64s zo]) e⟩
  ·exact ⟨x, Ev.step (f := fun _ => some (l, 0, x)) (fun k => by rw [hr, if_neg zo]) (Ev.now _)⟩
theorem spec_new (l : List Int) (hl : l.length ≤ 140737488351232) : ∃ h, Ev (fun k => spec_l01New.f k l) (l, 0, h) := spec_new_l0 l hl 4000 0 _ zo zo
theorem spec_once (l : List Int) (i h n : Int) (hl : l.length ≤ 140737488351232) (hi : 0 ≤ i) (hn : 0 < n) : ∃ (b : Bool) (i' h' : Int), spec_l01Once.f l i h n = some (b, i', h') ∧ 0 ≤ i' := by
 obtain ⟨v, i', h', e, _, p⟩ := spec_below l i h n hl hi hn
 refine ⟨v == 0, i', h', ?_, p⟩
 unfold spec_l01Once.f
 rw [e]
 rfl
def clampE (E : Int) : Int := max (-5000) (min E 5000)
open CR in
def roundT (b : Bool) (M : Nat) (E : Int) (more : Bool) : Nat := if M = 0 then enc b 0 else nearS b M (clampE E) (more && decide (72057594037927936 ≤ M))
theorem spec_pow_l0 (n : Nat) (hn : n ≤ 63) : ∀ (d i : Nat), n - i = d → i ≤ n → Ev (fun k => spec_l03Pow.l0 k (n : Int) ((2 ^ i : Nat) : Int) (i : Int)) ((2 ^ n : Nat) : Int) := by
 intro d
 induction d with
 | zero =>
  intro i hd hi
  obtain rfl : i = n := by omega
  exact Ev.step (f := fun _ => some ((2 ^ i : Nat) : Int)) (fun k => by simp only [spec_l03Pow.l0]; rw [if_neg zo]) (Ev.now _)
 | succ d ih =>
  intro i hd hi
  refine Ev.step (fun k => ?_) (ih (i + 1) zo zo)
  simp only [spec_l03Pow.l0]
  have hp : 2 ^ (i + 1) ≤ 2 ^ 63 := Nat.pow_le_pow_right zo zo
  rw [if_pos zo, wu64, w64 zo zo]
  rw [Nat.pow_succ] at hp
  rw [show ((2 ^ i : Nat) : Int) * 2 % 18446744073709551616 = ((2 ^ (i + 1) : Nat) : Int) by rw [Nat.pow_succ]; omega]
  rfl
theorem spec_pow (n : Nat) (hn : n ≤ 63) : Ev (fun k => spec_l03Pow.f k (n : Int)) ((2 ^ n : Nat) : Int) := by
 unfold spec_l03Pow.f; exact spec_pow_l0 n hn n 0 zo zo
theorem spec_pow63 : Ev (fun k => spec_l03Pow.f k 63) 9223372036854775808 := spec_pow 63 zo
open CR in
theorem spec_sign (r : Nat) (b : Bool) (hr : r < 9223372036854775808) : Ev (fun k => spec_l03Sign.f k (r : Int) b) ((enc b r : Nat) : Int) := by
 unfold spec_l03Sign.f
 cases b
 ·exact Ev.now _
 ·simp only [if_true]
  refine Ev.bind spec_pow63 ?_
  rw [wu64, show ((r : Int) + 9223372036854775808) % 18446744073709551616 = ((enc true r : Nat) : Int) by unfold enc; rw [if_pos rfl]; omega]
  exact Ev.now _
open CR in
theorem spec_pack_j9 (b : Bool) (last : Int) (m : Nat) (h0 : -1074 ≤ last) (h1 : last ≤ 10000) (hm : m < 9007199254740992) (hn : last ≠ -1074 → 4503599627370496 ≤ m) :
  Ev (fun k => spec_RoundTo.j9 k b (m : Int) last) ((packN b last m : Nat) : Int) := by
 have hj : ∀ (k : Nat) (x1 x2 : Int), spec_RoundTo.j9 (k + 1) b x1 x2 = if x1 < 4503599627370496 then ((spec_l03Sign.f k x1 b).bind fun t104 => (some t104)) else (if x2 > 971 then ((spec_l03Sign.f k 9218868437227405312 b).bind fun t105 => (some t105)) else ((spec_l03Sign.f k (IntKind.u64.wrap ((IntKind.u64.wrap (x1 - 4503599627370496)) + (IntKind.u64.wrap ((IntKind.u64.wrap (wrap64 (x2 + 1075))) * 4503599627370496)))) b).bind fun t106 => (some t106))) := fun _ _ _ => rfl
 by_cases h3 : m < 4503599627370496
 ·have hl : last = -1074 := by
   rcases Int.lt_or_eq_of_le h0 with h | h
   ·have := hn zo; omega
   ·exact h.symm
  subst hl
  have e : packN b (-1074) m = enc b m := by
   unfold packN
   rw [Nat.min_eq_left zo, show (-1074 + 1074 : Int).toNat * 4503599627370496 + m = m by omega]
  rw [e]
  exact Ev.step (fun k => by rw [hj, if_pos zo]) (Ev.bind (spec_sign m b zo) (Ev.now _))
 ·by_cases h2 : last > 971
  ·have e : packN b last m = enc b 9218868437227405312 := by
    unfold packN
    rw [Nat.min_eq_right zo]
   rw [e]
   have hs : Ev (fun k => spec_l03Sign.f k 9218868437227405312 b) ((enc b 9218868437227405312 : Nat) : Int) := spec_sign 9218868437227405312 b zo
   exact Ev.step (fun k => by rw [hj, if_neg zo, if_pos h2]) (Ev.bind hs (Ev.now _))
  ·have e : packN b last m = enc b (m - 4503599627370496 + (last + 1075).toNat * 4503599627370496) := by
    unfold packN
    rw [Nat.min_eq_left zo]
    exact congrArg (enc b) zo
   rw [e]
   refine Ev.step (fun k => ?_) (Ev.bind (spec_sign (m - 4503599627370496 + (last + 1075).toNat * 4503599627370496) b zo) (Ev.now _))
   rw [hj, if_neg zo, if_neg h2, w64 (x := last + 1075) zo zo, wu64, wu64, wu64, wu64,
    show (((m : Int) - 4503599627370496) % 18446744073709551616 + (last + 1075) % 18446744073709551616 * 4503599627370496 % 18446744073709551616) % 18446744073709551616 = ((m - 4503599627370496 + (last + 1075).toNat * 4503599627370496 : Nat) : Int) by omega]
open CR in
theorem spec_pack_j8 (b : Bool) (last : Int) (m : Nat) (h0 : -1074 ≤ last) (h1 : last ≤ 9000) (hm : m ≤ 9007199254740992) (hn : last ≠ -1074 → 4503599627370496 ≤ m) :
  Ev (fun k => spec_RoundTo.j8 k b (m : Int) last) ((packN b last m : Nat) : Int) := by
 have hj : ∀ (k : Nat) (x1 x2 : Int), spec_RoundTo.j8 (k + 1) b x1 x2 = if x1 = 9007199254740992 then (spec_RoundTo.j9 k b 4503599627370496 (wrap64 (x2 + 1))) else (spec_RoundTo.j9 k b x1 x2) := fun _ _ _ => rfl
 by_cases h2 : m = 9007199254740992
 ·subst h2
  have e : packN b last 9007199254740992 = packN b (last + 1) 4503599627370496 := by
   unfold packN
   rw [show (last + 1074).toNat * 4503599627370496 + 9007199254740992 = (last + 1 + 1074).toNat * 4503599627370496 + 4503599627370496 by omega]
  rw [e]
  refine Ev.step (fun k => ?_) (spec_pack_j9 b (last + 1) 4503599627370496 zo zo zo (fun _ => by omega))
  rw [hj, if_pos zo, w64 zo zo]
  rfl
 ·exact Ev.step (fun k => by rw [hj, if_neg zo]) (spec_pack_j9 b last m h0 zo zo hn)
open CR in
theorem spec_pack_j7 (b : Bool) (last : Int) (m : Nat) (z : Bool) (h0 : -1074 ≤ last) (h1 : last ≤ 9000) (hm : m + z.toNat ≤ 9007199254740992) (hn : last ≠ -1074 → 4503599627370496 ≤ m) :
  Ev (fun k => spec_RoundTo.j7 k b (m : Int) last z) ((packN b last (m + z.toNat) : Nat) : Int) := by
 have hj : ∀ (k : Nat) (x1 x2 : Int) (z : Bool), spec_RoundTo.j7 (k + 1) b x1 x2 z = if z = true then (spec_RoundTo.j8 k b (IntKind.u64.wrap (x1 + 1)) x2) else (spec_RoundTo.j8 k b x1 x2) := fun _ _ _ _ => rfl
 cases z
 ·exact Ev.step (fun k => by rw [hj, if_neg (by simp)]) (spec_pack_j8 b last m h0 h1 (by simpa using hm) hn)
 ·refine Ev.step (fun k => ?_) (spec_pack_j8 b last (m + 1) h0 h1 (by simpa using hm) (fun h => by have := hn h; omega))
  have hm' : m + 1 ≤ 9007199254740992 := by simpa using hm
  rw [hj, if_pos rfl, wu64, show ((m : Int) + 1) % 18446744073709551616 = ((m + 1 : Nat) : Int) by omega]
def halfB (M j : Nat) : Bool := decide (1 ≤ j ∧ M / 2 ^ (j - 1) % 2 = 1)
def restB (st : Bool) (M j : Nat) : Bool := st || decide (1 ≤ j ∧ M % 2 ^ (j - 1) ≠ 0)
open CR in
theorem round_bits (st : Bool) (M d : Nat) (hst : st = true → 1 ≤ d) : M / 2 ^ d + (halfB M d && (restB st M d || (M / 2 ^ d % 2 == 1))).toNat = if st then rneS M d else rne M d := by
 cases d with
 | zero =>
  have e : halfB M 0 = false := by unfold halfB; exact decide_eq_false zo
  rw [e]
  cases st
  ·rw [rne_zero]; simp
  ·have := hst rfl; omega
 | succ c =>
  have e2 : (2 : Nat) ^ (c + 1) = 2 * 2 ^ c := by rw [Nat.pow_succ]; omega
  have hmod : M % 2 ^ (c + 1) = M % 2 ^ c + 2 ^ c * (M / 2 ^ c % 2) := Nat.mod_pow_succ
  have hlt : M % 2 ^ c < 2 ^ c := Nat.mod_lt _ (Nat.pow_pos zo)
  unfold rneS rne halfB restB
  rw [show c + 1 - 1 = c by omega, hmod, e2]
  generalize M / (2 * 2 ^ c) = q
  have hb : M / 2 ^ c % 2 = 0 ∨ M / 2 ^ c % 2 = 1 := by omega
  generalize M / 2 ^ c % 2 = h at *
  generalize M % 2 ^ c = r at *
  generalize 2 ^ c = p at *
  rcases hb with rfl | rfl
  ·rw [Nat.mul_zero, Nat.add_zero]
   have e : decide (1 ≤ c + 1 ∧ 0 = 1) = false := decide_eq_false zo
   rw [e]
   cases st
   ·rw [if_neg (by simp), if_neg zo]; rfl
   ·rw [if_pos rfl, if_neg zo]; rfl
  ·rw [Nat.mul_one]
   have e : decide (1 ≤ c + 1 ∧ 1 = 1) = true := decide_eq_true zo
   rw [e, Bool.true_and]
   cases st
   ·rw [if_neg (by simp)]
    by_cases h0 : r = 0
    ·subst h0
     have e3 : decide (1 ≤ c + 1 ∧ 0 ≠ 0) = false := decide_eq_false zo
     rw [e3, Bool.false_or, Bool.false_or]
     by_cases h1 : q % 2 = 1
     ·rw [if_pos (.inr zo), show (q % 2 == 1) = true by simpa using h1]; rfl
     ·rw [if_neg zo, show (q % 2 == 1) = false by simpa using h1]; rfl
    ·have e3 : decide (1 ≤ c + 1 ∧ r ≠ 0) = true := decide_eq_true zo
     rw [e3, if_pos (.inl zo)]; rfl
   ·rw [if_pos rfl, if_pos zo]; rfl
theorem half_next (M j : Nat) : halfB M (j + 1) = (M / 2 ^ j % 2 == 1) := by
 unfold halfB
 rw [show j + 1 - 1 = j by omega]
 by_cases h : M / 2 ^ j % 2 = 1
 ·rw [decide_eq_true zo]; exact (beq_iff_eq.mpr h).symm
 ·rw [decide_eq_false zo]; exact (beq_eq_false_iff_ne.mpr h).symm
theorem rest_next (st : Bool) (M j : Nat) : restB st M (j + 1) = (restB st M j || halfB M j) := by
 unfold restB halfB
 rw [show j + 1 - 1 = j by omega]
 cases st
 ·simp only [Bool.false_or]
  cases j with
  | zero => simp [Nat.mod_one]
  | succ c =>
   rw [show c + 1 - 1 = c by omega, Nat.mod_pow_succ]
   have hp : 0 < 2 ^ c := Nat.pow_pos zo
   generalize M % 2 ^ c = r
   have hb : M / 2 ^ c % 2 = 0 ∨ M / 2 ^ c % 2 = 1 := by omega
   generalize M / 2 ^ c % 2 = h at *
   generalize 2 ^ c = p at *
   rcases hb with rfl | rfl
   ·rw [Nat.mul_zero, Nat.add_zero]; simp
   ·rw [Nat.mul_one]; simp; omega
 ·simp
theorem spec_l1_done (k : Nat) (b : Bool) (m : Int) (e : Int) (h r : Bool) (h1 : ¬ m ≥ 9007199254740992) (h2 : -1074 ≤ e) : spec_RoundTo.l1 (k + 2) b m e h r = spec_RoundTo.j7 k b m e (h && (r || (Int.tmod m 2 == 1))) := by
 have hj6 : ∀ (k : Nat), spec_RoundTo.j6 (k + 1) b m e h r false = (if h = true then (if r = true then (spec_RoundTo.j7 k b m e true) else (spec_RoundTo.j7 k b m e ((Int.tmod m 2) == 1))) else (spec_RoundTo.j7 k b m e false)) := fun _ => rfl
 have hl : ∀ (k : Nat), spec_RoundTo.l1 (k + 1) b m e h r = if m ≥ 9007199254740992 then (spec_RoundTo.j6 k b m e h r true) else (spec_RoundTo.j6 k b m e h r (decide (e < (-1074)))) := fun _ => rfl
 rw [hl, if_neg h1, decide_eq_false zo, hj6]
 cases h <;> cases r <;> rfl
theorem spec_l1_next (k : Nat) (b : Bool) (m : Nat) (e : Int) (h r : Bool) (hm : m < 18446744073709551616) (he : -30000 ≤ e ∧ e ≤ 30000) (hc : m ≥ 9007199254740992 ∨ e < -1074) :
  spec_RoundTo.l1 (k + 2) b (m : Int) e h r = if m / 2 = 0 ∧ e + 1 < -1074 then spec_RoundTo.l1 k b 0 (-1074) false ((r || h) || (m % 2 == 1)) else spec_RoundTo.l1 k b ((m / 2 : Nat) : Int) (e + 1) (m % 2 == 1) (r || h) := by
 have hj6 : ∀ (k : Nat), spec_RoundTo.j6 (k + 1) b (m : Int) e h r true = if r = true then (if (IntKind.u64.wrap (Int.tdiv (m : Int) 2)) = 0 then (if (wrap64 (e + 1)) < (-1074) then (spec_RoundTo.l1 k b (IntKind.u64.wrap (Int.tdiv (m : Int) 2)) (-1074) false true) else (spec_RoundTo.l1 k b (IntKind.u64.wrap (Int.tdiv (m : Int) 2)) (wrap64 (e + 1)) ((Int.tmod (m : Int) 2) == 1) true)) else (spec_RoundTo.l1 k b (IntKind.u64.wrap (Int.tdiv (m : Int) 2)) (wrap64 (e + 1)) ((Int.tmod (m : Int) 2) == 1) true)) else (if (IntKind.u64.wrap (Int.tdiv (m : Int) 2)) = 0 then (if (wrap64 (e + 1)) < (-1074) then (if h = true then (spec_RoundTo.l1 k b (IntKind.u64.wrap (Int.tdiv (m : Int) 2)) (-1074) false true) else (spec_RoundTo.l1 k b (IntKind.u64.wrap (Int.tdiv (m : Int) 2)) (-1074) false ((Int.tmod (m : Int) 2) == 1))) else (spec_RoundTo.l1 k b (IntKind.u64.wrap (Int.tdiv (m : Int) 2)) (wrap64 (e + 1)) ((Int.tmod (m : Int) 2) == 1) h)) else (spec_RoundTo.l1 k b (IntKind.u64.wrap (Int.tdiv (m : Int) 2)) (wrap64 (e + 1)) ((Int.tmod (m : Int) 2) == 1) h)) := fun _ => rfl
 have hl : ∀ (k : Nat), spec_RoundTo.l1 (k + 1) b (m : Int) e h r = if (m : Int) ≥ 9007199254740992 then (spec_RoundTo.j6 k b (m : Int) e h r true) else (spec_RoundTo.j6 k b (m : Int) e h r (decide (e < (-1074)))) := fun _ => rfl
 have e0 : spec_RoundTo.l1 (k + 2) b (m : Int) e h r = spec_RoundTo.j6 (k + 1) b (m : Int) e h r true := by
  rw [hl]
  by_cases h1 : (m : Int) ≥ 9007199254740992
  ·rw [if_pos h1]
  ·rw [if_neg h1, decide_eq_true zo]
 have e1 : IntKind.u64.wrap (Int.tdiv (m : Int) 2) = ((m / 2 : Nat) : Int) := by rw [wu64, tdivN (Int.natCast_nonneg m)]; omega
 have e2 : ((Int.tmod (m : Int) 2) == 1) = (m % 2 == 1) := by
  rw [tmodN (Int.natCast_nonneg m), Bool.eq_iff_iff]; simp; omega
 have e3 : wrap64 (e + 1) = e + 1 := w64 zo zo
 rw [e0, hj6, e1, e2, e3]
 clear hj6 hl e0 e1 e2 e3
 by_cases h0 : m / 2 = 0
 ·have h0' : ((m / 2 : Nat) : Int) = 0 := by omega
  rw [h0']
  by_cases h1 : e + 1 < -1074
  ·simp only [if_pos h1, if_pos (show m / 2 = 0 ∧ e + 1 < -1074 from ⟨h0, h1⟩)]
   cases r <;> cases h <;> rfl
  ·simp only [if_neg h1, if_neg (show ¬ (m / 2 = 0 ∧ e + 1 < -1074) from fun hh => h1 hh.2)]
   cases r <;> cases h <;> rfl
 ·have h0' : ¬ ((m / 2 : Nat) : Int) = 0 := by omega
  simp only [if_neg h0', if_neg (show ¬ (m / 2 = 0 ∧ e + 1 < -1074) from fun hh => h0 hh.1)]
  cases r <;> cases h <;> rfl
open CR in
theorem spec_l1_run (b st : Bool) (M : Nat) (E : Int) (D : Nat) (_h0 : M ≠ 0) (hM : M < 18446744073709551616) (hE : -5000 ≤ E ∧ E ≤ 5000) (hst : st = true → 1 ≤ D) (hD0 : -1074 ≤ E + D) (hD1 : M < 2 ^ (53 + D)) (hD2 : D < 10000) (hD3 : E + D ≤ 9000) (hstep : ∀ j, j < D → 2 ^ (53 + j) ≤ M ∨ E + j < -1074)
  (hn : E + D ≠ -1074 → 4503599627370496 ≤ M / 2 ^ D) :
  ∀ (d j : Nat), D - j = d → j ≤ D → Ev (fun k => spec_RoundTo.l1 k b ((M / 2 ^ j : Nat) : Int) (E + j) (halfB M j) (restB st M j)) ((packN b (E + D) (if st then rneS M D else rne M D) : Nat) : Int) := by
 intro d
 induction d with
 | zero =>
  intro j hd hj
  obtain rfl : j = D := by omega
  have hq : M / 2 ^ j < 9007199254740992 := Nat.div_lt_of_lt_mul (by rw [show (9007199254740992 : Nat) = 2 ^ 53 from rfl, ← Nat.pow_add, Nat.add_comm]; exact hD1)
  have hb := round_bits st M j hst
  rw [← hb]
  refine Ev.step (f := fun k => spec_RoundTo.l1 (k + 1) b ((M / 2 ^ j : Nat) : Int) (E + j) (halfB M j) (restB st M j)) (fun _ => rfl) ?_
  have ht : (Int.tmod ((M / 2 ^ j : Nat) : Int) 2 == 1) = (M / 2 ^ j % 2 == 1) := by
   rw [tmodN (Int.natCast_nonneg _), Bool.eq_iff_iff]
   generalize M / 2 ^ j = q
   simp; omega
  generalize hz : (halfB M j && (restB st M j || (M / 2 ^ j % 2 == 1))) = z
  have hz1 : z.toNat ≤ 1 := by cases z <;> decide
  refine Ev.step (fun k => ?_) (spec_pack_j7 b (E + j) (M / 2 ^ j) z hD0 hD3 zo hn)
  rw [spec_l1_done k b _ _ _ _ zo hD0, ht, hz]
 | succ d ih =>
  intro j hd hj
  have hc := hstep j zo
  have hle : M / 2 ^ j ≤ M := Nat.div_le_self _ _
  have hdiv : M / 2 ^ j / 2 = M / 2 ^ (j + 1) := by rw [Nat.div_div_eq_div_mul, ← Nat.pow_succ]
  have hcond : M / 2 ^ j ≥ 9007199254740992 ∨ E + (j : Int) < -1074 := by
   rcases hc with h | h
   ·left
    exact (Nat.le_div_iff_mul_le (Nat.pow_pos zo)).2 (by rw [show (9007199254740992 : Nat) = 2 ^ 53 from rfl, ← Nat.pow_add]; exact h)
   ·right; exact h
  have hnx : ∀ k, spec_RoundTo.l1 (k + 2) b ((M / 2 ^ j : Nat) : Int) (E + j) (halfB M j) (restB st M j) = if M / 2 ^ j / 2 = 0 ∧ E + j + 1 < -1074 then spec_RoundTo.l1 k b 0 (-1074) false ((restB st M j || halfB M j) || (M / 2 ^ j % 2 == 1)) else spec_RoundTo.l1 k b ((M / 2 ^ j / 2 : Nat) : Int) (E + j + 1) (M / 2 ^ j % 2 == 1) (restB st M j || halfB M j) :=
   fun k => spec_l1_next k b (M / 2 ^ j) (E + j) _ _ zo zo hcond
  refine Ev.step (f := fun k => spec_RoundTo.l1 (k + 1) b ((M / 2 ^ j : Nat) : Int) (E + j) (halfB M j) (restB st M j)) (fun _ => rfl) ?_
  by_cases hz : M / 2 ^ j / 2 = 0 ∧ E + j + 1 < -1074
  ·-- nothing is left of it
   have hz1 := hz.1
   rw [hdiv] at hz1
   have hlt : M < 2 ^ (j + 1) := by
    rcases Nat.lt_or_ge M (2 ^ (j + 1)) with h | h
    ·exact h
    ·have := Nat.div_pos h (Nat.pow_pos (n := j + 1) (show 0 < 2 by omega)); omega
   have hDj : j + 2 ≤ D := by omega
   have hp : 2 ^ (j + 2) ≤ 2 ^ D := Nat.pow_le_pow_right zo hDj
   have hp2 : (2 : Nat) ^ (j + 2) = 2 * 2 ^ (j + 1) := by rw [Nat.pow_succ 2 (j + 1)]; omega
   have hS : rneS M D = 0 := by
    unfold rneS
    generalize 2 ^ D = q at *
    generalize 2 ^ (j + 2) = u at *
    generalize 2 ^ (j + 1) = v at *
    rw [Nat.div_eq_of_lt (show M < q by omega), Nat.mod_eq_of_lt (show M < q by omega), if_neg zo]
   have hR : rne M D = 0 := by
    unfold rne
    generalize 2 ^ D = q at *
    generalize 2 ^ (j + 2) = u at *
    generalize 2 ^ (j + 1) = v at *
    rw [Nat.div_eq_of_lt (show M < q by omega), Nat.mod_eq_of_lt (show M < q by omega), if_neg zo]
   have hz2 : (if st then rneS M D else rne M D) = 0 := by rw [hS, hR]; cases st <;> rfl
   rw [hz2]
   have hq0 : M / 2 ^ D = 0 := Nat.div_eq_of_lt (by
    generalize 2 ^ D = q at *
    generalize 2 ^ (j + 2) = u at *
    generalize 2 ^ (j + 1) = v at *
    omega)
   have hED : E + D = -1074 := by
    rcases Classical.em (E + D = -1074) with h | h
    ·exact h
    ·have := hn h; omega
   rw [hED]
   refine Ev.step (f := fun k => spec_RoundTo.l1 k b 0 (-1074) false ((restB st M j || halfB M j) || (M / 2 ^ j % 2 == 1))) (fun k => by rw [hnx k, if_pos hz]) ?_
   refine Ev.step (f := fun k => spec_RoundTo.l1 (k + 1) b 0 (-1074) false ((restB st M j || halfB M j) || (M / 2 ^ j % 2 == 1))) (fun _ => rfl) ?_
   exact Ev.step (fun k => by rw [spec_l1_done k b 0 (-1074) false _ zo zo, Bool.false_and]; rfl) (spec_pack_j7 b (-1074) 0 false zo zo (by decide) (fun h => absurd rfl h))
  ·have h' := ih (j + 1) zo zo
   rw [half_next, rest_next, ← hdiv] at h'
   refine Ev.step (fun k => ?_) h'
   rw [hnx k, if_neg hz]
   rw [show E + (j : Int) + 1 = E + ((j + 1 : Nat) : Int) by omega]
open CR in
theorem spec_l0_run (b st : Bool) (M : Nat) (E : Int) (h0 : M ≠ 0) (hM : M < 18446744073709551616) (hE : -5000 ≤ E ∧ E ≤ 5000) (r : Int) :
  ∀ (d i : Nat), (E - lastP M E).toNat - i = d → i ≤ (E - lastP M E).toNat →
  Ev (fun k => spec_RoundTo.l1 k b ((M * 2 ^ (E - lastP M E).toNat : Nat) : Int) (E - (E - lastP M E).toNat) false st) r →
  Ev (fun k => spec_RoundTo.l0 k b ((M * 2 ^ i : Nat) : Int) (E - i) st) r := by
 have hl : ∀ (k : Nat) (x1 x2 : Int), spec_RoundTo.l0 (k + 1) b x1 x2 st = if x1 < 4503599627370496 then (if x2 > (-1074) then (spec_RoundTo.l0 k b (IntKind.u64.wrap (x1 * 2)) (wrap64 (x2 - 1)) st) else (spec_RoundTo.j4 k b x1 x2 st)) else (spec_RoundTo.j4 k b x1 x2 st) := fun _ _ _ => rfl
 have hj4 : ∀ (k : Nat) (x1 x2 : Int), spec_RoundTo.j4 (k + 1) b x1 x2 st = spec_RoundTo.l1 k b x1 x2 false st := fun _ _ _ => rfl
 have hlog := log_le h0
 have hlog2 := lt_log M
 have hlogM : M.log2 < 64 := log_mono hM h0
 intro d
 induction d with
 | zero =>
  intro i hd hi h
  obtain rfl : i = (E - lastP M E).toNat := by omega
  refine Ev.step (f := fun k => spec_RoundTo.j4 k b ((M * 2 ^ (E - lastP M E).toNat : Nat) : Int) (E - (E - lastP M E).toNat) st) (fun k => ?_) (Ev.step (fun k => by rw [hj4]) h)
  rw [hl]
  by_cases h1 : ((M * 2 ^ (E - lastP M E).toNat : Nat) : Int) < 4503599627370496
  ·rw [if_pos h1]
   have : ¬ (E - ((E - lastP M E).toNat : Int) > -1074) := by
    intro h2
    have h3 : M * 2 ^ (E - lastP M E).toNat < 2 ^ 52 := by
     have : (2 : Nat) ^ 52 = 4503599627370496 := rfl
     omega
    have h4 : 2 ^ (M.log2 + (E - lastP M E).toNat) ≤ M * 2 ^ (E - lastP M E).toNat := by
     rw [Nat.pow_add]; exact Nat.mul_le_mul_right _ hlog
    have h5 : M.log2 + (E - lastP M E).toNat < 52 := by
     rcases Nat.lt_or_ge (M.log2 + (E - lastP M E).toNat) 52 with h | h
     ·exact h
     ·have := Nat.pow_le_pow_right (n := 2) zo h
      omega
    clear h1 h3 h4
    unfold lastP at *
    omega
   rw [if_neg this]
  ·rw [if_neg h1]
 | succ d ih =>
  intro i hd hi h
  have h' := ih (i + 1) zo zo h
  refine Ev.step (fun k => ?_) h'
  have hlt : M * 2 ^ i < 4503599627370496 := by
   have h3 : M * 2 ^ i < 2 ^ (M.log2 + 1) * 2 ^ i := Nat.mul_lt_mul_of_pos_right hlog2 (Nat.pow_pos zo)
   rw [← Nat.pow_add] at h3
   exact Nat.lt_of_lt_of_le h3 (Nat.pow_le_pow_right (n := 2) zo (show M.log2 + 1 + i ≤ 52 by unfold lastP at *; omega))
  have hgt : E - (i : Int) > -1074 := by unfold lastP at *; omega
  have e1 : M * 2 ^ (i + 1) = M * 2 ^ i * 2 := by rw [Nat.pow_succ, Nat.mul_assoc]
  rw [e1]
  generalize M * 2 ^ i = p at *
  rw [hl, if_pos zo, if_pos hgt, wu64, w64 zo zo, show ((p : Nat) : Int) * 2 % 18446744073709551616 = ((p * 2 : Nat) : Int) by omega, show E - (i : Int) - 1 = E - ((i + 1 : Nat) : Int) by omega]
open CR in
theorem spec_round_l0 (b st : Bool) (M : Nat) (E : Int) (h0 : M ≠ 0) (hM : M < 18446744073709551616) (hE : -5000 ≤ E ∧ E ≤ 5000) (hst : st = true → 72057594037927936 ≤ M) :
  Ev (fun k => spec_RoundTo.l0 k b (M : Int) E st) ((nearS b M E st : Nat) : Int) := by
 have hlog := log_le h0
 have hlog2 := lt_log M
 have hlogM : M.log2 < 64 := log_mono hM h0
 have h := spec_l0_run b st M E h0 hM hE ((nearS b M E st : Nat) : Int) (E - lastP M E).toNat 0 zo zo
 rw [Nat.pow_zero, Nat.mul_one, show E - ((0 : Nat) : Int) = E by omega] at h
 refine h ?_
 have hlp : -1074 ≤ lastP M E ∧ lastP M E ≤ 8000 := by unfold lastP; omega
 have hlp2 : E + M.log2 - 52 ≤ lastP M E := by unfold lastP; omega
 have hlp3 : lastP M E = -1074 ∨ lastP M E = E + M.log2 - 52 := by unfold lastP; omega
 have hkr := kept_range M E h0
 by_cases hd : lastP M E > E
 ·-- down
  have hres : nearS b M E st = packN b (E + ((lastP M E - E).toNat : Int)) (if st then rneS M (lastP M E - E).toNat else rne M (lastP M E - E).toNat) := by
   rw [show E + ((lastP M E - E).toNat : Int) = lastP M E by omega]
   cases st
   ·unfold nearS
    rw [if_neg (by simp), if_neg (by simp), near_down b M E h0 zo]
   ·rw [near_st b M E (hst rfl), if_pos rfl]
  rw [hres, show (E - lastP M E).toNat = 0 by omega, Nat.pow_zero, Nat.mul_one, show E - ((0 : Nat) : Int) = E by omega]
  have hrun := spec_l1_run b st M E (lastP M E - E).toNat h0 hM hE (fun _ => by omega) zo
   (Nat.lt_of_lt_of_le hlog2 (Nat.pow_le_pow_right zo zo)) zo zo
   (fun j hj => by
    rcases Classical.em (E + j < -1074) with h | h
    ·exact .inr h
    ·left; exact Nat.le_trans (Nat.pow_le_pow_right zo zo) hlog)
   (fun hne => by
    have hx : lastP M E ≠ -1074 := by omega
    refine (Nat.le_div_iff_mul_le (Nat.pow_pos zo)).2 ?_
    rw [show (4503599627370496 : Nat) = 2 ^ 52 from rfl, ← Nat.pow_add]
    exact Nat.le_trans (Nat.pow_le_pow_right zo zo) hlog)
   (lastP M E - E).toNat 0 zo zo
  rw [Nat.pow_zero, Nat.div_one, show E + ((0 : Nat) : Int) = E by omega] at hrun
  have e1 : halfB M 0 = false := by unfold halfB; exact decide_eq_false zo
  have e2 : restB st M 0 = st := by unfold restB; rw [decide_eq_false zo, Bool.or_false]
  rw [e1, e2] at hrun
  exact hrun
 ·-- up
  have hst2 : st = false := by
   cases st
   ·rfl
   ·have := lastP_big M E (hst rfl); omega
  subst hst2
  have hres : nearS b M E false = packN b (lastP M E) (M * 2 ^ (E - lastP M E).toNat) := by
   unfold nearS
   rw [if_neg (by simp), near_up b M E h0 zo]
  rw [show (lastP M E - E).toNat = 0 by omega, rne_zero] at hkr
  rw [hres, show E - (((E - lastP M E).toNat : Nat) : Int) = lastP M E by omega]
  generalize hm : M * 2 ^ (E - lastP M E).toNat = m at *
  rcases Nat.lt_or_ge m 9007199254740992 with hmlt | hmge
  ·refine Ev.step (f := fun k => spec_RoundTo.l1 (k + 1) b (m : Int) (lastP M E) false false) (fun _ => rfl) ?_
   have hp := spec_pack_j7 b (lastP M E) m false hlp.1 zo (by show m + 0 ≤ _; omega) hkr.2
   exact Ev.step (fun k => by rw [spec_l1_done k b (m : Int) (lastP M E) false false zo hlp.1, Bool.false_and]) hp
  ·exfalso
   have h3 : M * 2 ^ (E - lastP M E).toNat < 2 ^ (M.log2 + 1) * 2 ^ (E - lastP M E).toNat := Nat.mul_lt_mul_of_pos_right hlog2 (Nat.pow_pos zo)
   rw [← Nat.pow_add] at h3
   have h4 := Nat.pow_le_pow_right (n := 2) zo (show M.log2 + 1 + (E - lastP M E).toNat ≤ 53 by omega)
   have h5 : (2 : Nat) ^ 53 = 9007199254740992 := rfl
   omega
open CR in
theorem spec_round (b : Bool) (M : Nat) (hM : M < 18446744073709551616) (E : Int) (more : Bool) :
  Ev (fun k => spec_RoundTo.f k b (M : Int) E more) ((roundT b M E more : Nat) : Int) := by
 have hj0 : ∀ (k : Nat) (x2 : Int), spec_RoundTo.j0 (k + 1) b (M : Int) x2 more = if x2 < (-5000) then (spec_RoundTo.j1 k b (M : Int) (-5000) more) else (spec_RoundTo.j1 k b (M : Int) x2 more) := fun _ _ => rfl
 have hj1 : ∀ (k : Nat) (x2 : Int), spec_RoundTo.j1 (k + 1) b (M : Int) x2 more = if more = true then ((spec_l03Pow.f k 56).bind fun t102 => (spec_RoundTo.j2 k b (M : Int) x2 (decide ((M : Int) ≥ t102)))) else (spec_RoundTo.j2 k b (M : Int) x2 false) := fun _ _ => rfl
 have hj2 : ∀ (k : Nat) (x2 : Int) (z : Bool), spec_RoundTo.j2 (k + 1) b (M : Int) x2 z = if (M : Int) = 0 then ((spec_l03Sign.f k 0 b).bind fun t103 => (some t103)) else (spec_RoundTo.l0 k b (M : Int) x2 z) := fun _ _ _ => rfl
 have hcr : -5000 ≤ clampE E ∧ clampE E ≤ 5000 := by unfold clampE; omega
 have k2 : ∀ z : Bool, z = (more && decide (72057594037927936 ≤ M)) → Ev (fun k => spec_RoundTo.j2 k b (M : Int) (clampE E) z) ((roundT b M E more : Nat) : Int) := by
  intro z hz
  unfold roundT
  by_cases h0 : M = 0
  ·rw [if_pos h0]
   have hs : Ev (fun k => spec_l03Sign.f k 0 b) ((enc b 0 : Nat) : Int) := spec_sign 0 b zo
   exact Ev.step (fun k => by rw [hj2, if_pos zo]) (Ev.bind hs (Ev.now _))
  ·rw [if_neg h0, ← hz]
   exact Ev.step (fun k => by rw [hj2, if_neg zo]) (spec_round_l0 b z M (clampE E) h0 hM hcr (fun hh => by rw [hz] at hh; simp at hh; exact hh.2))
 have k1 : Ev (fun k => spec_RoundTo.j1 k b (M : Int) (clampE E) more) ((roundT b M E more : Nat) : Int) := by
  cases hm : more
  ·rw [hm] at k2 hj1
   exact Ev.step (fun k => by rw [hj1, if_neg (by simp)]) (k2 false (by simp))
  ·rw [hm] at k2 hj1
   have hp : Ev (fun k => spec_l03Pow.f k 56) ((2 ^ 56 : Nat) : Int) := spec_pow 56 zo
   refine Ev.step (f := fun k => (spec_l03Pow.f k 56).bind fun t102 => spec_RoundTo.j2 k b (M : Int) (clampE E) (decide ((M : Int) ≥ t102))) (fun k => by rw [hj1, if_pos rfl]) (Ev.bind hp ?_)
   refine k2 _ ?_
   rw [Bool.true_and, decide_eq_decide]
   have : ((2 ^ 56 : Nat) : Int) = 72057594037927936 := rfl
   rw [this]; omega
 unfold spec_RoundTo.f
 by_cases h1 : E > 5000
 ·simp only [if_pos h1]
  have : clampE E = 5000 := by unfold clampE; omega
  rw [this] at k1
  exact Ev.step (fun k => by rw [hj0, if_neg zo]) k1
 ·simp only [if_neg h1]
  by_cases h2 : E < -5000
  ·have : clampE E = -5000 := by unfold clampE; omega
   rw [this] at k1
   exact Ev.step (fun k => by rw [hj0, if_pos h2]) k1
  ·have : clampE E = E := by unfold clampE; omega
   rw [this] at k1
   exact Ev.step (fun k => by rw [hj0, if_neg h2]) k1
theorem getD_mem (l : List Int) (i : Nat) (h : i < l.length) : l.getD i 0 ∈ l := by
 rw [List.getD_eq_getElem?_getD, List.getElem?_eq_getElem h]; simp
theorem getD_out (l : List Int) (i : Nat) (h : l.length ≤ i) : l.getD i 0 = 0 := by rw [List.getD_eq_getElem?_getD, List.getElem?_eq_none h]; rfl
open CR Ieee in
theorem near_lt (b : Bool) (M : Nat) (E : Int) : double.nearest b M E < 18446744073709551616 := by
 have he : ∀ r : Nat, r ≤ 9218868437227405312 → enc b r < 18446744073709551616 := by
  intro r hr
  unfold enc
  split <;> omega
 by_cases h : M = 0
 ·subst h
  rw [near_zero]
  exact he 0 zo
 ·rw [near_eq b M E h]
  exact he _ (Nat.min_le_right _ _)
open CR Ieee in
theorem round_lt (b : Bool) (M : Nat) (E : Int) (more : Bool) : roundT b M E more < 18446744073709551616 := by
 unfold roundT
 split
 ·unfold enc
  split <;> omega
 ·unfold nearS
  split
  ·exact near_lt _ _ _
  ·exact near_lt _ _ _
theorem spec_fromSmall (z : Int) (h0 : -1000 ≤ z) (h1 : z ≤ 1000) : ∃ v, Ev (fun k => spec_FromInt.f k z) v ∧ (0 ≤ v ∧ v < 18446744073709551616) := by
 unfold spec_FromInt.f
 by_cases hz : z < 0
 ·refine ⟨_, ?_, Int.natCast_nonneg _, Int.ofNat_lt.2 (round_lt true z.natAbs 0 false)⟩
  rw [w64 (x := -z) zo zo, wu64, show -z % 18446744073709551616 = ((z.natAbs : Nat) : Int) by omega]
  simp only [if_neg (show ¬ z = -9223372036854775808 by omega), if_pos hz]
  exact Ev.bind (spec_round true z.natAbs zo 0 false) (Ev.now _)
 ·refine ⟨_, ?_, Int.natCast_nonneg _, Int.ofNat_lt.2 (round_lt false z.toNat 0 false)⟩
  rw [wu64 z, show z % 18446744073709551616 = ((z.toNat : Nat) : Int) by omega]
  simp only [if_neg (show ¬ z = -9223372036854775808 by omega), if_neg hz]
  exact Ev.bind (spec_round false z.toNat zo 0 false) (Ev.now _)
theorem u64_range (x : Int) : 0 ≤ IntKind.u64.wrap x ∧ IntKind.u64.wrap x < 18446744073709551616 := by
 rw [wu64]; omega
theorem spec_bits (l : List Int) (i h : Int) (hl : l.length ≤ 140737488351232) (hi : 0 ≤ i) : ∃ v i' h', spec_l03Bits64.f l i h = some (v, i', h') ∧ (0 ≤ v ∧ v < 18446744073709551616) ∧ 0 ≤ i' := by
 obtain ⟨v1, i1, h1, e1, _, p1⟩ := spec_below l i h 4294967296 hl hi zo
 obtain ⟨v2, i2, h2, e2, _, p2⟩ := spec_below l i1 h1 4294967296 hl p1 zo
 refine ⟨IntKind.u64.wrap (IntKind.u64.wrap (IntKind.u64.wrap v1 * 4294967296) + IntKind.u64.wrap v2), i2, h2, ?_, u64_range _, p2⟩
 unfold spec_l03Bits64.f
 rw [e1]
 simp only [Option.bind_some]
 rw [e2]
 rfl
theorem spec_number (l : List Int) (i h : Int) (hl : l.length ≤ 140737488351232) (hi : 0 ≤ i) : ∃ v i' h', Ev (fun k => spec_l03Number.f k l i h) (v, i', h') ∧ (0 ≤ v ∧ v < 18446744073709551616) ∧ 0 ≤ i' := by
 obtain ⟨c, i1, h1, e1, r1, p1⟩ := spec_below l i h 8 hl hi zo
 unfold spec_l03Number.f
 rw [e1]
 simp only [Option.bind_some]
 have hj : ∀ (k : Nat) (z : Bool), spec_l03Number.j0 (k + 1) c z l i1 h1 = if z = true then ((spec_l01Below.f l i1 h1 2000).bind fun bt152 => ((spec_FromInt.f k (wrap64 (bt152.1 - 1000))).bind fun t155 => (some (t155, bt152.2.1, bt152.2.2)))) else (if c = 3 then ((spec_l01Once.f l i1 h1 2).bind fun bt156 => ((spec_l01Below.f l bt156.2.1 bt156.2.2 1000000).bind fun bt159 => ((spec_l01Below.f l bt159.2.1 bt159.2.2 40).bind fun bt162 => ((spec_RoundTo.f k bt156.1 (IntKind.u64.wrap (bt159.1)) (wrap64 (bt162.1 - 30)) false).bind fun t165 => (some (t165, bt162.2.1, bt162.2.2)))))) else (if c = 4 then ((spec_l01Below.f l i1 h1 2048).bind fun bt166 => ((spec_l01Below.f l bt166.2.1 bt166.2.2 4).bind fun bt169 => (some (IntKind.u64.wrap ((IntKind.u64.wrap ((IntKind.u64.wrap (bt166.1)) * 4503599627370496)) + (IntKind.u64.wrap (bt169.1))), bt169.2.1, bt169.2.2)))) else (if c = 5 then ((spec_l01Once.f l i1 h1 2).bind fun bt172 => ((spec_l03Bits64.f l bt172.2.1 bt172.2.2).bind fun bt175 => ((spec_l01Below.f l bt175.2.1 bt175.2.2 120).bind fun bt178 => ((spec_RoundTo.f k bt172.1 (IntKind.u64.wrap (Int.tdiv bt175.1 2048)) (wrap64 (bt178.1 - 80)) false).bind fun t181 => (some (t181, bt178.2.1, bt178.2.2)))))) else ((spec_l03Bits64.f l i1 h1).bind fun bt182 => (some (bt182.1, bt182.2.1, bt182.2.2)))))) := fun _ _ => rfl
 have key : ∀ z : Bool, ∃ v i' h', Ev (fun k => spec_l03Number.j0 k c z l i1 h1) (v, i', h') ∧ (0 ≤ v ∧ v < 18446744073709551616) ∧ 0 ≤ i' := by
  intro z
  by_cases hz : z = true
  ·obtain ⟨v2, i2, h2, e2, r2, p2⟩ := spec_below l i1 h1 2000 hl p1 zo
   obtain ⟨v, hv, r⟩ := spec_fromSmall (v2 - 1000) zo zo
   refine ⟨v, i2, h2, Ev.step (f := fun k => (spec_FromInt.f k (v2 - 1000)).bind fun t => some (t, i2, h2)) (fun k => ?_) (Ev.bind hv (Ev.now _)), r, p2⟩
   rw [hj, if_pos hz, e2]
   simp only [Option.bind_some]
   rw [w64 (x := v2 - 1000) zo zo]
  by_cases h3 : c = 3
  ·obtain ⟨b, i2, h2, e2, p2⟩ := spec_once l i1 h1 2 hl p1 zo
   obtain ⟨v3, i3, h3', e3, r3, p3⟩ := spec_below l i2 h2 1000000 hl p2 zo
   obtain ⟨v4, i4, h4, e4, r4, p4⟩ := spec_below l i3 h3' 40 hl p3 zo
   refine ⟨((roundT b v3.toNat (v4 - 30) false : Nat) : Int), i4, h4, Ev.step (f := fun k => (spec_RoundTo.f k b ((v3.toNat : Nat) : Int) (v4 - 30) false).bind fun t => some (t, i4, h4)) (fun k => ?_) (Ev.bind (spec_round b v3.toNat zo (v4 - 30) false) (Ev.now _)), ⟨Int.natCast_nonneg _, Int.ofNat_lt.2 (round_lt _ _ _ _)⟩, p4⟩
   rw [hj, if_neg hz, if_pos h3, e2]
   simp only [Option.bind_some]
   rw [e3]
   simp only [Option.bind_some]
   rw [e4]
   simp only [Option.bind_some]
   rw [w64 (x := v4 - 30) zo zo, wu64, show v3 % 18446744073709551616 = ((v3.toNat : Nat) : Int) by omega]
  by_cases h4 : c = 4
  ·obtain ⟨v3, i3, h3', e3, r3, p3⟩ := spec_below l i1 h1 2048 hl p1 zo
   obtain ⟨v4, i4, h4', e4, r4, p4⟩ := spec_below l i3 h3' 4 hl p3 zo
   refine ⟨IntKind.u64.wrap (IntKind.u64.wrap (IntKind.u64.wrap v3 * 4503599627370496) + IntKind.u64.wrap v4), i4, h4', Ev.step (fun k => ?_) (Ev.now (_, i4, h4')), u64_range _, p4⟩
   rw [hj, if_neg hz, if_neg h3, if_pos h4, e3]
   simp only [Option.bind_some]
   rw [e4]
   rfl
  by_cases h5 : c = 5
  ·obtain ⟨b, i2, h2, e2, p2⟩ := spec_once l i1 h1 2 hl p1 zo
   obtain ⟨v3, i3, h3', e3, r3, p3⟩ := spec_bits l i2 h2 hl p2
   obtain ⟨v4, i4, h4', e4, r4, p4⟩ := spec_below l i3 h3' 120 hl p3 zo
   refine ⟨((roundT b (v3.toNat / 2048) (v4 - 80) false : Nat) : Int), i4, h4', Ev.step (f := fun k => (spec_RoundTo.f k b ((v3.toNat / 2048 : Nat) : Int) (v4 - 80) false).bind fun t => some (t, i4, h4')) (fun k => ?_) (Ev.bind (spec_round b (v3.toNat / 2048) zo (v4 - 80) false) (Ev.now _)), ⟨Int.natCast_nonneg _, Int.ofNat_lt.2 (round_lt _ _ _ _)⟩, p4⟩
   rw [hj, if_neg hz, if_neg h3, if_neg h4, if_pos h5, e2]
   simp only [Option.bind_some]
   rw [e3]
   simp only [Option.bind_some]
   rw [e4]
   simp only [Option.bind_some]
   rw [w64 (x := v4 - 80) zo zo, tdivN r3.1, wu64, show v3 / 2048 % 18446744073709551616 = ((v3.toNat / 2048 : Nat) : Int) by omega]
  ·obtain ⟨v3, i3, h3', e3, r3, p3⟩ := spec_bits l i1 h1 hl p1
   refine ⟨v3, i3, h3', Ev.step (fun k => ?_) (Ev.now (v3, i3, h3')), r3, p3⟩
   rw [hj, if_neg hz, if_neg h3, if_neg h4, if_neg h5, e3]
   rfl
 by_cases h0 : c = 0
 ·obtain ⟨v2, i2, h2, e2, r2, p2⟩ := spec_below l i1 h1 17 hl p1 zo
  simp only [if_pos h0]
  have hall : ∀ x ∈ ([0, 9223372036854775808, 1, 2, 4503599627370495, 4503599627370496, 4503599627370497, 9218868437227405312, 9218868437227405311, 9218868437227405310, 9221120237041090560, 9221120237041090561, IntKind.u64.wrap (9218868437227405312 + 9223372036854775808), IntKind.u64.wrap (9221120237041090560 + 9223372036854775808), 9218868437227405313, 4607182418800017408, 4607182418800017409] : List Int), 0 ≤ x ∧ x < 18446744073709551616 := by decide +kernel
  refine ⟨_, i2, h2, Ev.bind spec_pow63 (Ev.bind spec_pow63 (Ev.bind spec_pow63 ?_)), hall _ (getD_mem _ v2.toNat ?_), p2⟩
  ·rw [show ((([0, 9223372036854775808, 1, 2, 4503599627370495, 4503599627370496, 4503599627370497, 9218868437227405312, 9218868437227405311, 9218868437227405310, 9221120237041090560, 9221120237041090561, IntKind.u64.wrap (9218868437227405312 + 9223372036854775808), IntKind.u64.wrap (9221120237041090560 + 9223372036854775808), 9218868437227405313, 4607182418800017408, 4607182418800017409] : List Int).length : Nat) : Int) = 17 from rfl, e2]
   simp only [Option.bind_some]
   rw [if_pos r2.1, if_pos r2.2]
   exact Ev.now _
  ·simp only [List.length_cons, List.length_nil]
   omega
 ·simp only [if_neg h0]
  by_cases h2 : c = 1
  ·simp only [if_pos h2]
   exact key _
  ·simp only [if_neg h2]
   exact key _
theorem spec_numbers (l : List Int) (hl : l.length ≤ 140737488351232) : ∃ a b c : Nat, Ev (fun k => spec_DrawNumbers.f k l) ((a : Int), (b : Int), (c : Int)) ∧ a < 18446744073709551616 ∧ b < 18446744073709551616 ∧ c < 18446744073709551616 := by
 obtain ⟨h, e⟩ := spec_new l hl
 obtain ⟨v1, i1, h1, e1, r1, p1⟩ := spec_number l 0 h hl zo
 obtain ⟨v2, i2, h2, e2, r2, p2⟩ := spec_number l i1 h1 hl p1
 obtain ⟨v3, i3, h3, e3, r3, p3⟩ := spec_number l i2 h2 hl p2
 refine ⟨v1.toNat, v2.toNat, v3.toNat, ?_, by omega, by omega, by omega⟩
 rw [show ((v1.toNat : Nat) : Int) = v1 by omega, show ((v2.toNat : Nat) : Int) = v2 by omega, show ((v3.toNat : Nat) : Int) = v3 by omega]
 unfold spec_DrawNumbers.f
 exact Ev.bind e (Ev.bind e1 (Ev.bind e2 (Ev.bind e3 (Ev.now _))))
def partsN (x : Nat) : Int × Bool × Int × Int :=
 if 9218868437227405312 < x % 9223372036854775808 then (1, false, 0, 0)
 else if x % 9223372036854775808 = 9218868437227405312 then (2, decide (9223372036854775808 ≤ x), 0, 0)
 else if x % 9223372036854775808 = 0 then (3, decide (9223372036854775808 ≤ x), 0, 0)
 else if x % 9223372036854775808 < 4503599627370496 then (4, decide (9223372036854775808 ≤ x), ((x % 4503599627370496 : Nat) : Int), -1074)
 else (4, decide (9223372036854775808 ≤ x), ((x % 4503599627370496 + 4503599627370496 : Nat) : Int), ((x / 4503599627370496 % 2048 : Nat) : Int) - 1075)
def nanB (x : Nat) : Bool := decide (9218868437227405312 < x % 9223372036854775808)
theorem partsN_kind (x : Nat) : ((partsN x).1 == 1) = nanB x := by
 unfold partsN nanB
 split
 ·rename_i h; simp [h]
 ·rename_i h; rw [decide_eq_false h]; split
  ·rfl
  ·split
   ·rfl
   ·split <;> rfl
theorem spec_parts_j1 (k : Nat) (e f : Int) (b z : Bool) : spec_PartsOfNumber.j1 (k + 1) e f z 0 b 0 0 = if z = true then some (3, b, 0, 0) else if e = 0 then some (4, b, f, (-1074)) else some (4, b, IntKind.u64.wrap (f + 4503599627370496), wrap64 (e - 1075)) := rfl
theorem spec_parts_j0 (k : Nat) (e f : Int) (b z : Bool) : spec_PartsOfNumber.j0 (k + 1) e f z 0 b 0 0 = if z = true then some (1, false, 0, 0) else if e = 2047 then some (2, b, 0, 0) else if e = 0 then spec_PartsOfNumber.j1 k e f (f == 0) 0 b 0 0 else spec_PartsOfNumber.j1 k e f false 0 b 0 0 := rfl
theorem spec_parts (x : Nat) (hx : x < 18446744073709551616) : Ev (fun k => spec_PartsOfNumber.f k (x : Int)) (partsN x) := by
 unfold spec_PartsOfNumber.f
 refine Ev.bind spec_pow63 ?_
 simp only [if_neg (show ¬ (9223372036854775808 : Int) = 0 by omega)]
 have e1 : wrap64 (Int.tmod (IntKind.u64.wrap (Int.tdiv (x : Int) 4503599627370496)) 2048) = ((x / 4503599627370496 % 2048 : Nat) : Int) := by
  rw [wu64, tdivN (Int.natCast_nonneg x), tmodN zo, w64 zo zo]; omega
 have e2 : Int.tmod (x : Int) 4503599627370496 = ((x % 4503599627370496 : Nat) : Int) := by rw [tmodN (Int.natCast_nonneg x)]; omega
 have e3 : ((IntKind.u64.wrap (Int.tdiv (x : Int) 9223372036854775808)) == 1) = decide (9223372036854775808 ≤ x) := by
  rw [wu64, tdivN (Int.natCast_nonneg x), Bool.eq_iff_iff]; simp; omega
 rw [e1, e2, e3]
 generalize hb : decide (9223372036854775808 ≤ x) = b
 have hp : partsN x = if 9218868437227405312 < x % 9223372036854775808 then (1, false, 0, 0)
  else if x % 9223372036854775808 = 9218868437227405312 then (2, b, 0, 0)
  else if x % 9223372036854775808 = 0 then (3, b, 0, 0)
  else if x % 9223372036854775808 < 4503599627370496 then (4, b, ((x % 4503599627370496 : Nat) : Int), -1074)
  else (4, b, ((x % 4503599627370496 + 4503599627370496 : Nat) : Int), ((x / 4503599627370496 % 2048 : Nat) : Int) - 1075) := by unfold partsN; rw [hb]
 rw [hp]
 by_cases h1 : x / 4503599627370496 % 2048 = 2047
 ·simp only [if_pos (show ((x / 4503599627370496 % 2048 : Nat) : Int) = 2047 by omega)]
  by_cases h2 : x % 4503599627370496 = 0
  ·rw [if_neg zo, if_pos zo]
   exact Ev.step (f := fun _ => some (2, b, 0, 0)) (fun k => by rw [spec_parts_j0, if_neg (by simp [h2]), if_pos zo]) (Ev.now _)
  ·rw [if_pos zo]
   exact Ev.step (f := fun _ => some (1, false, 0, 0)) (fun k => by rw [spec_parts_j0, if_pos (by simp; omega)]) (Ev.now _)
 ·simp only [if_neg (show ¬ ((x / 4503599627370496 % 2048 : Nat) : Int) = 2047 by omega)]
  rw [if_neg zo, if_neg zo]
  by_cases h2 : x / 4503599627370496 % 2048 = 0
  ·refine Ev.step (f := fun k => spec_PartsOfNumber.j1 k ((x / 4503599627370496 % 2048 : Nat) : Int) ((x % 4503599627370496 : Nat) : Int) (((x % 4503599627370496 : Nat) : Int) == 0) 0 b 0 0) (fun k => by rw [spec_parts_j0, if_neg (by simp), if_neg zo, if_pos zo]) ?_
   by_cases h3 : x % 4503599627370496 = 0
   ·rw [if_pos zo]
    exact Ev.step (f := fun _ => some (3, b, 0, 0)) (fun k => by rw [spec_parts_j1, if_pos (by simp [h3])]) (Ev.now _)
   ·rw [if_neg zo, if_pos zo]
    exact Ev.step (f := fun _ => some (4, b, ((x % 4503599627370496 : Nat) : Int), -1074)) (fun k => by rw [spec_parts_j1, if_neg (by simp; omega), if_pos zo]) (Ev.now _)
  ·refine Ev.step (f := fun k => spec_PartsOfNumber.j1 k ((x / 4503599627370496 % 2048 : Nat) : Int) ((x % 4503599627370496 : Nat) : Int) false 0 b 0 0) (fun k => by rw [spec_parts_j0, if_neg (by simp), if_neg zo, if_neg zo]) ?_
   rw [if_neg zo, if_neg zo]
   refine Ev.step (f := fun _ => some (4, b, ((x % 4503599627370496 + 4503599627370496 : Nat) : Int), ((x / 4503599627370496 % 2048 : Nat) : Int) - 1075)) (fun k => ?_) (Ev.now _)
   rw [spec_parts_j1, if_neg (by simp), if_neg zo, wu64, w64 zo zo, show (((x % 4503599627370496 : Nat) : Int) + 4503599627370496) % 18446744073709551616 = ((x % 4503599627370496 + 4503599627370496 : Nat) : Int) by omega]
def partsR (d : Ieee.Datum) : Int × Bool × Int × Int := match d with | .nan _ _ => (1, false, 0, 0) | .infinity b => (2, b, 0, 0) | .number b m e => if m = 0 then (3, b, 0, 0) else (4, b, (m : Int), e)
open CG in
theorem parts_read (x : Nat) (hx : x < 18446744073709551616) : partsN x = partsR (Ieee.double.read x) := by
 rw [read_def x hx]
 unfold partsN CG.sgn
 by_cases h1 : 9218868437227405312 < x % 9223372036854775808
 ·rw [if_pos h1, if_neg zo, if_neg zo, if_neg zo]; rfl
 ·rw [if_neg h1]
  by_cases h2 : x % 9223372036854775808 = 9218868437227405312
  ·rw [if_pos h2, if_neg zo, if_neg zo, if_pos h2]; rfl
  ·rw [if_neg h2]
   by_cases h3 : x % 9223372036854775808 = 0
   ·rw [if_pos h3, if_pos zo, h3]; rfl
   ·rw [if_neg h3]
    by_cases h4 : x % 9223372036854775808 < 4503599627370496
    ·rw [if_pos h4, if_pos h4]
     unfold partsR
     simp only [if_neg h3]
     rw [show x % 9223372036854775808 = x % 4503599627370496 by omega]
    ·rw [if_neg h4, if_neg h4, if_pos zo]
     unfold partsR
     simp only [if_neg (show ¬ 4503599627370496 + x % 4503599627370496 = 0 by omega)]
     rw [Nat.add_comm 4503599627370496]
theorem parts_is {x : Nat} {d : Ieee.Datum} (hx : x < 18446744073709551616) (h : Ieee.double.read x = d) : Ev (fun k => spec_PartsOfNumber.f k (x : Int)) (partsR d) := by
 have := spec_parts x hx
 rw [parts_read x hx, h] at this
 exact this
theorem parts_some {x m : Nat} {s : Bool} {i : Int} (hx : x < 18446744073709551616) (h : Ieee.double.read x = .number s m i) (hm : m ≠ 0) : Ev (fun k => spec_PartsOfNumber.f k (x : Int)) (4, s, (m : Int), i) := by
 have := parts_is hx h
 unfold partsR at this
 simp only [if_neg hm] at this
 exact this
theorem impl_nan (x : Nat) (hx : x < 18446744073709551616) : impl_isNaN.f (x : Int) = some (nanB x) := by
 unfold impl_isNaN.f nanB
 rw [and63 x hx]
 congr 1
 rw [decide_eq_decide]; omega
theorem impl_parts (x : Nat) (hx : x < 18446744073709551616) : Ev (fun k => impl_PartsOfNumber.f k (x : Int)) (partsN x) := by
 unfold impl_PartsOfNumber.f
 rw [impl_nan x hx]
 simp only [Option.bind_some]
 have e1 : wrap64 (Go.bits .and .u64 ((x : Int) / 4503599627370496) 2047) = ((x / 4503599627370496 % 2048 : Nat) : Int) := by
  have h1 := and_u64 (x / 4503599627370496) 2047 zo zo
  rw [show (x / 4503599627370496) &&& 2047 = x / 4503599627370496 % 2048 from mask _ 11] at h1
  rw [show (x : Int) / 4503599627370496 = ((x / 4503599627370496 : Nat) : Int) by omega]
  have h2 : Go.bits .and .u64 (((x / 4503599627370496 : Nat) : Int)) 2047 = ((x / 4503599627370496 % 2048 : Nat) : Int) := h1
  rw [h2, w64 zo zo]
 have e2 : Go.bits .and .u64 (x : Int) 4503599627370495 = ((x % 4503599627370496 : Nat) : Int) := by
  have h1 := and_u64 x 4503599627370495 hx zo
  rw [show x &&& 4503599627370495 = x % 4503599627370496 from mask _ 52] at h1
  exact h1
 have e3 : (((x : Int) / 9223372036854775808) == 1) = decide (9223372036854775808 ≤ x) := by rw [Bool.eq_iff_iff]; simp; omega
 rw [e1, e2, e3]
 generalize hb : decide (9223372036854775808 ≤ x) = b
 have hp : partsN x = if 9218868437227405312 < x % 9223372036854775808 then (1, false, 0, 0)
  else if x % 9223372036854775808 = 9218868437227405312 then (2, b, 0, 0)
  else if x % 9223372036854775808 = 0 then (3, b, 0, 0)
  else if x % 9223372036854775808 < 4503599627370496 then (4, b, ((x % 4503599627370496 : Nat) : Int), -1074)
  else (4, b, ((x % 4503599627370496 + 4503599627370496 : Nat) : Int), ((x / 4503599627370496 % 2048 : Nat) : Int) - 1075) := by unfold partsN; rw [hb]
 rw [hp]
 have hj : ∀ (k : Nat) (f e : Int) (z : Bool), impl_PartsOfNumber.j0 (k + 1) b f e z = if z = true then (some (3, b, 0, 0)) else (if e = 0 then (some (4, b, f, (-1074))) else (some (4, b, Go.bits .or .u64 f 4503599627370496, wrap64 (e - 1075)))) := fun _ _ _ _ => rfl
 by_cases h0 : 9218868437227405312 < x % 9223372036854775808
 ·have : nanB x = true := decide_eq_true h0
  rw [if_pos h0]
  simp only [this, if_true]
  exact Ev.now _
 ·have : nanB x = false := decide_eq_false h0
  rw [if_neg h0]
  simp only [this, Bool.false_eq_true, if_false]
  by_cases h1 : x / 4503599627370496 % 2048 = 2047
  ·simp only [if_pos (show ((x / 4503599627370496 % 2048 : Nat) : Int) = 2047 by omega)]
   rw [if_pos zo]
   exact Ev.now _
  ·simp only [if_neg (show ¬ ((x / 4503599627370496 % 2048 : Nat) : Int) = 2047 by omega)]
   rw [if_neg zo]
   by_cases h2 : x / 4503599627370496 % 2048 = 0
   ·simp only [if_pos (show ((x / 4503599627370496 % 2048 : Nat) : Int) = 0 by omega)]
    by_cases h3 : x % 4503599627370496 = 0
    ·rw [if_pos zo]
     exact Ev.step (f := fun _ => some (3, b, 0, 0)) (fun k => by rw [hj, if_pos (by simp [h3])]) (Ev.now _)
    ·rw [if_neg zo, if_pos zo]
     exact Ev.step (f := fun _ => some (4, b, ((x % 4503599627370496 : Nat) : Int), -1074)) (fun k => by rw [hj, if_neg (by simp; omega), if_pos zo]) (Ev.now _)
   ·simp only [if_neg (show ¬ ((x / 4503599627370496 % 2048 : Nat) : Int) = 0 by omega)]
    rw [if_neg zo, if_neg zo]
    refine Ev.step (f := fun _ => some (4, b, ((x % 4503599627370496 + 4503599627370496 : Nat) : Int), ((x / 4503599627370496 % 2048 : Nat) : Int) - 1075)) (fun k => ?_) (Ev.now _)
    have e4 : Go.bits .or .u64 ((x % 4503599627370496 : Nat) : Int) 4503599627370496 = ((x % 4503599627370496 + 4503599627370496 : Nat) : Int) := by
     have h4 := or_u64 (x % 4503599627370496) 4503599627370496 zo zo
     have h5 := join 1 (x % 4503599627370496) 52 zo
     rw [Nat.or_comm, show (2 ^ 52 * 1 : Nat) = 4503599627370496 from rfl] at h5
     rw [h5, Nat.add_comm] at h4
     exact h4
    rw [hj, if_neg (by simp), if_neg zo, e4, w64 zo zo]
theorem ev_const {α : Type} {x : Option α} {r : α} (h : x = some r) : Ev (fun _ => x) r := by rw [h]; exact Ev.now r
theorem ev_if {α : Type} {c : Prop} [Decidable c] {f g : Nat → Option α} {r : α} (h : c) (k : Ev f r) : Ev (fun n => if c then f n else g n) r := Ev.congr (fun _ => if_pos h) k
theorem ev_else {α : Type} {c : Prop} [Decidable c] {f g : Nat → Option α} {r : α} (h : ¬ c) (k : Ev g r) : Ev (fun n => if c then f n else g n) r := Ev.congr (fun _ => if_neg h) k
theorem ev_same {α : Type} {g : Nat → Option α} {a b : α} (ha : Ev g a) (hb : Ev g b) : a = b := by
 obtain ⟨i, hi⟩ := ha
 obtain ⟨j, hj⟩ := hb
 exact Option.some.inj ((hi (i + j) zo).symm.trans (hj (i + j) zo))
theorem short_given {x M : Nat} {s : Bool} {e : Int} (hx : x < 18446744073709551616) (hr : Ieee.double.read x = .number s M e) (hM : M ≠ 0) : impl_scientific.f (x : Int) (-1) = some (decN (SF.bestU M e), SF.bestF M e) := by
 unfold impl_scientific.f G.impl_scientific
 rw [if_pos ⟨by omega, by omega, rfl⟩, Int.toNat_natCast]
 unfold G.shortF
 rw [hr]
 exact if_neg hM
theorem impl_short {x M : Nat} {s : Bool} {e : Int} (hx : x < 18446744073709551616) (hr : Ieee.double.read x = .number s M e) (hM : M ≠ 0) : Ev (fun k => impl_Shortest.f k (x : Int)) (decN (SF.bestU M e), SF.bestF M e) := by
 have he := ev_same (parts_is hx hr) (spec_parts x hx)
 have hs := short_given hx hr hM
 unfold impl_Shortest.f
 refine Ev.bind (impl_parts x hx) (ev_if ?_ (Ev.bind (ev_const hs) (Ev.now _)))
 rw [← he]
 simp [partsR, hM]
theorem impl_inB (a b c : Int) : impl_within.f a b c = some (decide (b ≤ a ∧ a ≤ c)) := by
 unfold impl_within.f
 by_cases h : a ≥ b
 ·rw [if_pos h]; simp; omega
 ·rw [if_neg h]; simp; omega
theorem impl_dec_l0B (n : Int) (b : Bool) : ∀ (d m : Nat) (s : ByteArray), m < 10 ^ (d + 1) → m ≤ 9223372036854775808 → s.size + d ≤ 1000 →
  Ev (fun k => impl_Decimal.l0 k n s (if b then -(m : Int) else m)) (sgn (decide (n < 0)) (dgz m s)) := by
 have hr : ∀ (m : Nat) (s : ByteArray) (k : Nat), m ≤ 9223372036854775808 → s.size ≤ 1000 → impl_Decimal.l0 (k + 1) n s (if b then -(m : Int) else m) =
   if m < 10 then some (sgn (decide (n < 0)) (dgz m s)) else impl_Decimal.l0 k n (strOfNums [48 + ((m % 10 : Nat) : Int)] ++ s) (if b then -((m / 10 : Nat) : Int) else ((m / 10 : Nat) : Int)) := by
  intro m s k hm hs
  simp only [impl_Decimal.l0]
  rw [tdiv10 b m, tmod10 b m]
  have hw : wrap64 (if b then -((m / 10 : Nat) : Int) else ((m / 10 : Nat) : Int)) = if b then -((m / 10 : Nat) : Int) else ((m / 10 : Nat) : Int) := by
   apply w64 <;> (cases b <;> simp <;> omega)
  rw [hw, impl_inB]
  have hin : decide ((-9 : Int) ≤ (if b then -(m : Int) else m) ∧ (if b then -(m : Int) else m) ≤ 9) = decide (m < 10) := by
   rw [decide_eq_decide]; cases b <;> simp <;> omega
  have htail : ∀ y : ByteArray, y.size ≤ 10 → y = strOfNums [48 + ((m % 10 : Nat) : Int)] → (if decide (m < 10) = true then (if n < 0 then (if 1 + (y ++ s).size ≤ 9223372036854775807 then some ((⟨#[45]⟩ : ByteArray) ++ (y ++ s)) else none) else some (y ++ s)) else impl_Decimal.l0 k n (y ++ s) (if b then -((m / 10 : Nat) : Int) else ((m / 10 : Nat) : Int))) = if m < 10 then some (sgn (decide (n < 0)) (dgz m s)) else impl_Decimal.l0 k n (strOfNums [48 + ((m % 10 : Nat) : Int)] ++ s) (if b then -((m / 10 : Nat) : Int) else ((m / 10 : Nat) : Int)) := by
   intro y hy hyy
   by_cases h1 : m < 10
   ·rw [if_pos (decide_eq_true h1), if_pos h1, dgz_small m s h1]
    rw [show m % 10 = m by omega] at hyy
    rw [← hyy]
    unfold sgn
    by_cases h2 : n < 0
    ·rw [if_pos h2, if_pos (by rw [ByteArray.size_append]; omega), if_pos (decide_eq_true h2)]
    ·rw [if_neg h2, if_neg (by simpa using h2)]
   ·rw [if_neg (by simpa using h1), if_neg h1, hyy]
  by_cases hd : b = true ∧ m % 10 ≠ 0
  ·obtain ⟨rfl, hd⟩ := hd
   simp only [if_true] at hin htail ⊢
   rw [if_pos zo, w64 (x := - -((m % 10 : Nat) : Int)) zo zo, Int.neg_neg, w64 zo zo, show (48 + ((m % 10 : Nat) : Int)) % 256 = 48 + ((m % 10 : Nat) : Int) by omega]
   simp only [Option.bind_some]
   rw [if_pos (by rw [str_size]; simp; omega), hin]
   exact htail _ (by rw [str_size]; simp) rfl
  ·have e : (if b then -((m % 10 : Nat) : Int) else ((m % 10 : Nat) : Int)) = ((m % 10 : Nat) : Int) := by
    cases b
    ·rfl
    ·simp only [if_true]; have : m % 10 = 0 := by simp at hd; exact hd
     rw [this]; rfl
   rw [e, if_neg zo, w64 zo zo, show (48 + ((m % 10 : Nat) : Int)) % 256 = 48 + ((m % 10 : Nat) : Int) by omega]
   simp only [Option.bind_some]
   rw [if_pos (by rw [str_size]; simp; omega), hin]
   exact htail _ (by rw [str_size]; simp) rfl
 intro d
 induction d with
 | zero =>
  intro m s h hm hs
  exact Ev.step (f := fun _ => some (sgn (decide (n < 0)) (dgz m s))) (fun k => by rw [hr m s k hm zo, if_pos (by simpa using h)]) (Ev.now _)
 | succ d ih =>
  intro m s h hm hs
  by_cases h1 : m < 10
  ·exact Ev.step (f := fun _ => some (sgn (decide (n < 0)) (dgz m s))) (fun k => by rw [hr m s k hm zo, if_pos h1]) (Ev.now _)
  ·rw [dgz_far m s h1]
   exact Ev.step (fun k => by rw [hr m s k hm zo, if_neg h1]) (ih (m / 10) (strOfNums [48 + ((m % 10 : Nat) : Int)] ++ s) (by rw [Nat.pow_succ] at h; omega) zo (by rw [ByteArray.size_append, str_size]; simp; omega))
theorem impl_decB (n : Int) (h0 : -9223372036854775808 ≤ n) (h1 : n < 9223372036854775808) : Ev (fun k => impl_Decimal.f k n) (decT n) := by
 unfold impl_Decimal.f
 have h' := impl_dec_l0B n (decide (n < 0)) 19 n.natAbs ⟨#[]⟩ (Nat.lt_of_le_of_lt (show n.natAbs ≤ 9223372036854775808 by omega) (by decide)) zo (by simp [ByteArray.size])
 rw [← signed_of n] at h'
 have e : decT n = sgn (decide (n < 0)) (dgz n.natAbs ⟨#[]⟩) := by
  by_cases h : n = 0
  ·subst h; rfl
  ·rw [decT_sgn n h]; unfold dgz; rw [if_neg zo]
 rw [e]
 exact h'
def zer (n : Nat) : ByteArray := ⟨(List.replicate n 48).toArray⟩
def minusT (b : Bool) : ByteArray := if b = true then ⟨#[45]⟩ else ⟨#[]⟩
def outT (b : Bool) (s : ByteArray) : ByteArray := if 1 < s.size then minusT b ++ s.extract 0 1 ++ (⟨#[46]⟩ : ByteArray) ++ s.extract 1 s.size else minusT b ++ s.extract 0 1
def showP (b : Bool) (s : ByteArray) (n : Int) : ByteArray :=
 if (s.size : Int) ≤ n ∧ n ≤ 21 then minusT b ++ s ++ zer (n - s.size).toNat
 else if 0 < n ∧ n ≤ 21 then minusT b ++ s.extract 0 n.toNat ++ (⟨#[46]⟩ : ByteArray) ++ s.extract n.toNat s.size
 else if -6 < n ∧ n ≤ 0 then minusT b ++ (⟨#[48, 46]⟩ : ByteArray) ++ zer (-n).toNat ++ s
 else if n - 1 < 0 then outT b s ++ (⟨#[101, 45]⟩ : ByteArray) ++ decT (1 - n)
 else outT b s ++ (⟨#[101, 43]⟩ : ByteArray) ++ decT (n - 1)
theorem zer_size (n : Nat) : (zer n).size = n := by unfold zer; simp [ByteArray.size]
theorem minus_size (b : Bool) : (minusT b).size ≤ 1 := by cases b <;> decide
theorem repeat48 (n : Nat) : (⟨(Lib.repeatL ([48] : List UInt8) n).toArray⟩ : ByteArray) = zer n := by
 have h : ∀ n, Lib.repeatL ([48] : List UInt8) n = List.replicate n 48 := by
  intro n
  induction n with
  | zero => rfl
  | succ n ih =>
   show 48 :: Lib.repeatL ([48] : List UInt8) n = _
   rw [ih, List.replicate_succ]
 unfold zer; rw [h]
theorem one46 : (⟨#[46]⟩ : ByteArray).size = 1 := rfl
theorem two_e1 : (⟨#[101, 45]⟩ : ByteArray).size = 2 := rfl
theorem two_e2 : (⟨#[101, 43]⟩ : ByteArray).size = 2 := rfl
theorem two_0 : (⟨#[48, 46]⟩ : ByteArray).size = 2 := rfl
theorem dec_size4 (n : Int) (h0 : 0 ≤ n) (h1 : n ≤ 2000) : (decT n).size ≤ 4 := by
 obtain ⟨m, rfl⟩ : ∃ m : Nat, n = m := ⟨n.toNat, by omega⟩
 exact (decN_size m 4 zo).2 zo
theorem rep_given (n : Nat) (h : n ≤ 100000) : strings_Repeat.f (⟨#[48]⟩ : ByteArray) (n : Int) = some (zer n) := by
 unfold strings_Repeat.f G.strings_Repeat
 rw [if_pos ⟨by omega, by omega, by show 1 ≤ 100000; omega⟩, Int.toNat_natCast]
 exact congrArg some (repeat48 n)
theorem show_impl_j0 (k : Nat) (x0 : Int) (x4 : ByteArray) (x365000 : Int) (x365001 : Bool) (x365002 : Int) (x365003 : Int) : impl_ShowNumber.j0 (k + 1) x0 x4 x365000 x365001 x365002 x365003 = if x365000 = 1 then (some (⟨#[78, 97, 78]⟩ : ByteArray)) else (if x365000 = 2 then (if x4.size + 8 ≤ 9223372036854775807 then (some (x4 ++ (⟨#[73, 110, 102, 105, 110, 105, 116, 121]⟩ : ByteArray))) else (none)) else (if x365000 = 3 then (some (⟨#[48]⟩ : ByteArray)) else ((impl_Shortest.f k x0).bind fun bt365 => ((impl_within.f (wrap64 ((bt365.1.size : Int) + bt365.2)) (bt365.1.size : Int) 21).bind fun t367 => (if t367 = true then (if x4.size + bt365.1.size ≤ 9223372036854775807 then ((strings_Repeat.f (⟨#[48]⟩ : ByteArray) (wrap64 ((wrap64 ((bt365.1.size : Int) + bt365.2)) - (bt365.1.size : Int)))).bind fun t368 => (if (x4 ++ bt365.1).size + t368.size ≤ 9223372036854775807 then (some ((x4 ++ bt365.1) ++ t368)) else (none))) else (none)) else ((impl_within.f (wrap64 ((bt365.1.size : Int) + bt365.2)) 1 21).bind fun t369 => (if t369 = true then (if 0 ≤ (wrap64 ((bt365.1.size : Int) + bt365.2)) then (if (wrap64 ((bt365.1.size : Int) + bt365.2)) ≤ (bt365.1.size : Int) then (if x4.size + (bt365.1.extract 0 ((wrap64 ((bt365.1.size : Int) + bt365.2)) : Int).toNat).size ≤ 9223372036854775807 then (if (x4 ++ (bt365.1.extract 0 ((wrap64 ((bt365.1.size : Int) + bt365.2)) : Int).toNat)).size + 1 ≤ 9223372036854775807 then (if ((x4 ++ (bt365.1.extract 0 ((wrap64 ((bt365.1.size : Int) + bt365.2)) : Int).toNat)) ++ (⟨#[46]⟩ : ByteArray)).size + (bt365.1.extract ((wrap64 ((bt365.1.size : Int) + bt365.2)) : Int).toNat bt365.1.size).size ≤ 9223372036854775807 then (some (((x4 ++ (bt365.1.extract 0 ((wrap64 ((bt365.1.size : Int) + bt365.2)) : Int).toNat)) ++ (⟨#[46]⟩ : ByteArray)) ++ (bt365.1.extract ((wrap64 ((bt365.1.size : Int) + bt365.2)) : Int).toNat bt365.1.size))) else (none)) else (none)) else (none)) else (none)) else (none)) else ((impl_within.f (wrap64 ((bt365.1.size : Int) + bt365.2)) (-5) 0).bind fun t370 => (if t370 = true then (if x4.size + 2 ≤ 9223372036854775807 then ((strings_Repeat.f (⟨#[48]⟩ : ByteArray) (wrap64 (-(wrap64 ((bt365.1.size : Int) + bt365.2))))).bind fun t371 => (if (x4 ++ (⟨#[48, 46]⟩ : ByteArray)).size + t371.size ≤ 9223372036854775807 then (if ((x4 ++ (⟨#[48, 46]⟩ : ByteArray)) ++ t371).size + bt365.1.size ≤ 9223372036854775807 then (some (((x4 ++ (⟨#[48, 46]⟩ : ByteArray)) ++ t371) ++ bt365.1)) else (none)) else (none))) else (none)) else (if 0 ≤ 1 then (if 1 ≤ (bt365.1.size : Int) then (if x4.size + (bt365.1.extract 0 1).size ≤ 9223372036854775807 then (if (bt365.1.size : Int) > 1 then (if (x4 ++ (bt365.1.extract 0 1)).size + 1 ≤ 9223372036854775807 then (if ((x4 ++ (bt365.1.extract 0 1)) ++ (⟨#[46]⟩ : ByteArray)).size + (bt365.1.extract 1 bt365.1.size).size ≤ 9223372036854775807 then (impl_ShowNumber.j1 k (wrap64 ((bt365.1.size : Int) + bt365.2)) (((x4 ++ (bt365.1.extract 0 1)) ++ (⟨#[46]⟩ : ByteArray)) ++ (bt365.1.extract 1 bt365.1.size))) else (none)) else (none)) else (impl_ShowNumber.j1 k (wrap64 ((bt365.1.size : Int) + bt365.2)) (x4 ++ (bt365.1.extract 0 1)))) else (none)) else (none)) else (none))))))))))) := rfl
theorem show_impl_j1 (k : Nat) (x8 : Int) (x9 : ByteArray) : impl_ShowNumber.j1 (k + 1) x8 x9 = if (wrap64 (x8 - 1)) < 0 then (if x9.size + 2 ≤ 9223372036854775807 then ((impl_Decimal.f k (wrap64 (1 - x8))).bind fun t372 => (if (x9 ++ (⟨#[101, 45]⟩ : ByteArray)).size + t372.size ≤ 9223372036854775807 then (some ((x9 ++ (⟨#[101, 45]⟩ : ByteArray)) ++ t372)) else (none))) else (none)) else (if x9.size + 2 ≤ 9223372036854775807 then ((impl_Decimal.f k (wrap64 (x8 - 1))).bind fun t373 => (if (x9 ++ (⟨#[101, 43]⟩ : ByteArray)).size + t373.size ≤ 9223372036854775807 then (some ((x9 ++ (⟨#[101, 43]⟩ : ByteArray)) ++ t373)) else (none))) else (none)) := rfl
theorem impl_show_tail (X : ByteArray) (n : Int) (hX : X.size ≤ 1000) (h0 : -1000 ≤ n) (h1 : n ≤ 1000) : Ev (fun k => impl_ShowNumber.j1 k n X) (if n - 1 < 0 then X ++ (⟨#[101, 45]⟩ : ByteArray) ++ decT (1 - n) else X ++ (⟨#[101, 43]⟩ : ByteArray) ++ decT (n - 1)) := by
 refine Ev.step (fun k => show_impl_j1 k n X) ?_
 rw [w64 (x := n - 1) zo zo, w64 (x := 1 - n) zo zo]
 by_cases c : n - 1 < 0
 ·have hd := dec_size4 (1 - n) zo zo
  rw [if_pos c]
  exact ev_if c (ev_if zo (Ev.bind (impl_decB (1 - n) zo zo) (ev_if zS (Ev.now _))))
 ·have hd := dec_size4 (n - 1) zo zo
  rw [if_neg c]
  exact ev_else c (ev_if zo (Ev.bind (impl_decB (n - 1) zo zo) (ev_if zS (Ev.now _))))
theorem impl_show_fin {b : Bool} {s : ByteArray} {f : Int} (hk1 : 1 ≤ s.size) (hk2 : s.size ≤ 17) (h0 : -400 ≤ f) (h1 : f ≤ 400) (x0 : Int) (b2 : Bool) (m e : Int) (hs : Ev (fun k => impl_Shortest.f k x0) (s, f)) : Ev (fun k => impl_ShowNumber.j0 k x0 (minusT b) 4 b2 m e) (showP b s (f + s.size)) := by
 have hX := minus_size b
 have w1 : wrap64 ((s.size : Int) + f) = f + s.size := by rw [w64 zo zo]; omega
 obtain ⟨n, hn⟩ : ∃ n, n = f + (s.size : Int) := ⟨_, rfl⟩
 refine Ev.step (fun k => show_impl_j0 k ..) (ev_else zo (ev_else zo (ev_else zo (Ev.bind hs ?_))))
 simp only [w1]
 rw [← hn]
 refine Ev.bind (ev_const (impl_inB _ _ _)) ?_
 unfold showP
 by_cases c1 : (s.size : Int) ≤ n ∧ n ≤ 21
 ·obtain ⟨j, hj⟩ : ∃ j : Nat, n - s.size = j := ⟨(n - s.size).toNat, by omega⟩
  rw [if_pos c1, hj, Int.toNat_natCast, w64 (x := ((j : Nat) : Int)) zo zo]
  exact ev_if (decide_eq_true c1) (ev_if zS (Ev.bind (ev_const (rep_given j zo)) (ev_if zS (Ev.now _))))
 ·rw [if_neg c1]
  refine ev_else (by simpa using c1) (Ev.bind (ev_const (impl_inB _ _ _)) ?_)
  by_cases c2 : 0 < n ∧ n ≤ 21
  ·obtain ⟨j, rfl⟩ : ∃ j : Nat, n = j := ⟨n.toNat, by omega⟩
   rw [if_pos c2, Int.toNat_natCast]
   exact ev_if (decide_eq_true zo) (ev_if zo (ev_if (by show (j : Int) ≤ (s.size : Int); omega) (ev_if zS (ev_if zS (ev_if zS (Ev.now _))))))
  ·rw [if_neg c2]
   refine ev_else (by rw [decide_eq_true_iff]; omega) (Ev.bind (ev_const (impl_inB _ _ _)) ?_)
   by_cases c3 : -6 < n ∧ n ≤ 0
   ·obtain ⟨j, hj⟩ : ∃ j : Nat, -n = j := ⟨(-n).toNat, by omega⟩
    rw [if_pos c3, hj, Int.toNat_natCast, w64 (x := ((j : Nat) : Int)) zo zo]
    exact ev_if (decide_eq_true zo) (ev_if zS (Ev.bind (ev_const (rep_given j zo)) (ev_if zS (ev_if zS (Ev.now _)))))
   ·rw [if_neg c3]
    refine ev_else (by rw [decide_eq_true_iff]; omega) (ev_if zo (ev_if (by show (1 : Int) ≤ (s.size : Int); omega) (ev_if zS ?_)))
    unfold outT
    by_cases c : 1 < s.size
    ·rw [if_pos c]
     exact ev_if (by show (s.size : Int) > 1; omega) (ev_if zS (ev_if zS (impl_show_tail _ n zS zo zo)))
    ·rw [if_neg c]
     exact ev_else (by show ¬ (s.size : Int) > 1; omega) (impl_show_tail _ n zS zo zo)
open SF in
theorem impl_show {x M : Nat} {s : Bool} {e : Int} (hx : x < 18446744073709551616) (hr : Ieee.double.read x = .number s M e) (hM : M ≠ 0) : Ev (fun k => impl_ShowNumber.f k (x : Int)) (showP s (decN (bestU M e)) (bestF M e + (decN (bestU M e)).size)) := by
 have hb := best_of hx hr hM
 have h1 := impl_short hx hr hM
 have hk := (decN_size (bestU M e) 17 zo).2 hb.few
 have hl := hb.low
 have hh := hb.high
 have hf := fun b2 => impl_show_fin (b := s) (decN_pos (bestU M e)) hk zo zo (x : Int) b2 M e h1
 have hp := impl_parts x hx
 have he := ev_same (parts_is hx hr) (spec_parts x hx)
 rw [← he] at hp
 unfold partsR at hp
 simp only [if_neg hM] at hp
 unfold impl_ShowNumber.f
 refine Ev.bind hp ?_
 cases s with
 | true => exact ev_if rfl (hf true)
 | false => exact ev_else (by show ¬ (false = true); decide) (hf false)
def showK : Int → Bool → ByteArray
 | 1, _ => ⟨#[78, 97, 78]⟩
 | 2, b => minusT b ++ ⟨#[73, 110, 102, 105, 110, 105, 116, 121]⟩
 | _, _ => ⟨#[48]⟩
theorem impl_show_k {x : Nat} {p : Int × Bool × Int × Int} (hp : Ev (fun k => impl_PartsOfNumber.f k (x : Int)) p) (h : p.1 = 1 ∨ p.1 = 2 ∨ p.1 = 3) : Ev (fun k => impl_ShowNumber.f k (x : Int)) (showK p.1 p.2.1) := by
 obtain ⟨c, b, m, e⟩ := p
 have key : Ev (fun k => impl_ShowNumber.j0 k (x : Int) (minusT b) c b m e) (showK c b) := by
  refine Ev.step (fun k => show_impl_j0 k ..) ?_
  rcases h with h | h | h
  ·obtain rfl : c = 1 := h
   exact ev_if rfl (Ev.now _)
  ·obtain rfl : c = 2 := h
   exact ev_else (by decide) (ev_if rfl (ev_if (by have := minus_size b; omega) (Ev.now _)))
  ·obtain rfl : c = 3 := h
   exact ev_else (by decide) (ev_else (by decide) (ev_if rfl (Ev.now _)))
 unfold impl_ShowNumber.f
 refine Ev.bind hp ?_
 cases b with
 | true => exact ev_if rfl key
 | false => exact ev_else (by show ¬ (false = true); decide) key
theorem decN_figOk (v : Nat) (h : (decN v).size ≤ 800) : figOk (decN v) = true := by rw [figOk_decN, decide_eq_true h]
theorem decN_first (v : Nat) (h : v ≠ 0) : bt (decN v) 0 ≠ 48 := by
 intro h48
 have h1 := decN_lead v
 have h2 : (decN v).size = 1 := by
  have h3 := decN_pos v
  rcases Nat.lt_or_ge 1 (decN v).size with h4 | h4
  ·exact absurd ⟨h48, h4⟩ h1
  ·omega
 have h5 : v < 10 ^ 1 := (decN_size v 1 zo).1 zo
 have h6 := decN_data v
 rw [if_neg h, dgL_pos v h, show v / 10 = 0 by omega, dgL_zero, List.nil_append] at h6
 have h7 := bt_list (decN v) 0 zo
 have h8 : (decN v).data.toList[0]? = some (UInt8.ofNat (48 + v % 10)) := by rw [h6]; rfl
 rw [List.getElem?_eq_getElem (by rw [size_data]; omega)] at h8
 rw [Option.some.inj h8] at h7
 have h9 : (UInt8.ofNat (48 + v % 10)).toNat = 48 + v % 10 := by simp; omega
 rw [h9] at h7
 have h10 : bt (decN v) ((0 : Nat) : Int) = 48 := h48
 omega
theorem nearOk_decN {v : Nat} {E : Int} (h0 : v ≠ 0) (h1 : (decN v).size ≤ 60) (h2 : -500 ≤ E) (h3 : E ≤ 500) : nearOk (decN v) E = true := by
 unfold nearOk
 rw [decN_figOk v zo, decide_eq_true h1, decide_eq_true ⟨h2, h3⟩, decide_eq_false (decN_first v h0)]; rfl
theorem cut_list (u : ByteArray) (a b : Nat) : (u.extract a b).data.toList = (u.data.toList.drop a).take (b - a) := by
 rw [ByteArray.data_extract, Array.toList_extract, List.extract_eq_take_drop]
def dotL (D : List UInt8) : List UInt8 := if D = [] then [] else 46 :: D
def expL (sg : UInt8) (D : List UInt8) : List UInt8 := if D = [] then [] else 101 :: sg :: D
theorem dotL_nil : dotL [] = [] := rfl
theorem expL_nil (sg : UInt8) : expL sg [] = [] := rfl
theorem dotL_some {D : List UInt8} (h : D ≠ []) : dotL D = 46 :: D := if_neg h
theorem expL_some {D : List UInt8} (sg : UInt8) (h : D ≠ []) : expL sg D = 101 :: sg :: D := if_neg h
def figT (l : List UInt8) : ByteArray := if Lib.trimLeftB l 48 = [] then ⟨#[48]⟩ else ⟨(Lib.trimLeftB l 48).toArray⟩
theorem figT_of {l : List UInt8} {V : Nat} (h : Lib.trimLeftB l 48 = (decN V).data.toList) : figT l = decN V := by
 have h1 := decN_pos V
 have h2 : Lib.trimLeftB l 48 ≠ [] := fun hc => by
  rw [hc] at h
  have := congrArg List.length h
  rw [size_data] at this
  simp only [List.length_nil] at this
  omega
 unfold figT
 rw [if_neg h2, h]
structure Told (t : ByteArray) (g : ByteArray) (E : Int) (D1 D2 D3 : List UInt8) (sg : UInt8) : Prop where mk ::
 text : t.data.toList = D1 ++ (dotL D2 ++ expL sg D3)
 l1 : 1 ≤ D1.length
 u1 : D1.length ≤ 30
 u2 : D2.length ≤ 30
 u3 : D3.length ≤ 3
 d1 : ∀ b ∈ D1, isDg b
 d2 : ∀ b ∈ D2, isDg b
 d3 : ∀ b ∈ D3, isDg b
 sign : sg = 43 ∨ sg = 45
 trim : g = figT (D1 ++ D2)
 exp : E = (if sg = 45 then -((valD D3 : Nat) : Int) else ((valD D3 : Nat) : Int)) - D2.length
theorem trim_noughts (l : List UInt8) (h : ∀ b, l.head? = some b → b ≠ 48) : ∀ n, Lib.trimLeftB (List.replicate n 48 ++ l) 48 = l := by
 intro n
 induction n with
 | zero =>
  cases l with
  | nil => rfl
  | cons b r =>
   have := h b rfl
   unfold Lib.trimLeftB
   rw [List.replicate_zero, List.nil_append, List.dropWhile_cons, if_neg (by simpa using this)]
 | succ n ih =>
  rw [List.replicate_succ, List.cons_append]
  unfold Lib.trimLeftB at *
  rw [List.dropWhile_cons, if_pos (by decide), ih]
theorem decN_head {v : Nat} (h : v ≠ 0) : ∀ b, (decN v).data.toList.head? = some b → b ≠ 48 := by
 rw [decN_data, if_neg h]
 intro b hb hc
 exact dgL_head v b hb (by rw [hc]; rfl)
theorem decN_noughts {v : Nat} (h : v ≠ 0) : ∀ n, (decN (v * 10 ^ n)).data.toList = (decN v).data.toList ++ List.replicate n 48
  | 0 => by rw [Nat.pow_zero, Nat.mul_one]; simp
  | n + 1 => by
    have hp : 0 < 10 ^ n := Nat.pow_pos zo
    have h1 : v * 10 ^ n ≠ 0 := Nat.mul_ne_zero h zo
    have h2 := decN_noughts h n
    have e : v * 10 ^ (n + 1) = v * 10 ^ n * 10 := by rw [Nat.pow_succ, Nat.mul_assoc]
    rw [decN_data, if_neg h1] at h2
    rw [e, decN_data, if_neg zo, dgL_pos _ zo, show v * 10 ^ n * 10 / 10 = v * 10 ^ n by omega, show v * 10 ^ n * 10 % 10 = 0 by omega, h2, List.replicate_succ', List.append_assoc]
    rfl
theorem dec_of_nat (n : Nat) : decT (n : Int) = decN n := rfl
open SF HD in
theorem show_told {y U : Nat} {f : Int} (h : Best y U f) : ∃ V E D1 D2 D3 sg, Told (showP false (decN U) (f + (decN U).size)) (decN V) E D1 D2 D3 sg ∧ V ≠ 0 ∧ Reads y E V ∧ (decN V).size ≤ 60 ∧ -500 ≤ E ∧ E ≤ 500 := by
 obtain ⟨h1, h2, h3, h4, h5, _⟩ := h
 have hU : U ≠ 0 := fun h => by subst h; exact h2 rfl
 have hk1 := decN_pos U
 have hk2 : (decN U).size ≤ 17 := (decN_size U 17 zo).2 h3
 have hlen : (decN U).data.toList.length = (decN U).size := size_data _
 have hdg := decN_dg U
 have hhd := decN_head hU
 have htr := trim_noughts _ hhd
 have htr0 : Lib.trimLeftB (decN U).data.toList 48 = (decN U).data.toList := by have h := htr 0; simpa using h
 have hm0 : minusT false = ⟨#[]⟩ := rfl
 generalize hs : decN U = s at *
 obtain ⟨k, hk⟩ : ∃ k, k = s.size := ⟨_, rfl⟩
 rw [← hk] at hk1 hk2 hlen ⊢
 have hme : (minusT false).data.toList = [] := rfl
 unfold showP
 rw [← hk]
 by_cases c1 : (k : Int) ≤ f + k ∧ f + k ≤ 21
 ·obtain ⟨n, hn⟩ : ∃ n : Nat, f = n := ⟨f.toNat, by omega⟩
  have hp : 0 < 10 ^ n := Nat.pow_pos zo
  have hno := decN_noughts hU n
  rw [hs] at hno
  have hsz : (decN (U * 10 ^ n)).size = k + n := by
   have := congrArg List.length hno
   rw [size_data, List.length_append, List.length_replicate, hlen] at this
   exact this
  have htx : (minusT false ++ s ++ zer (f + k - k).toNat).data.toList = (decN (U * 10 ^ n)).data.toList := by
   rw [append_data, append_data, hme, hno, show (f + (k : Int) - k).toNat = n by omega]
   rfl
  rw [if_pos c1]
  refine ⟨U * 10 ^ n, 0, (decN (U * 10 ^ n)).data.toList, [], [], 43, ⟨?_, ?_, ?_, by simp, by simp, decN_dg _, by simp, by simp, .inl rfl, ?_, by simp [valD]⟩, Nat.mul_ne_zero hU zo, ?_, by omega, by omega, by omega⟩
  ·rw [htx]; simp [dotL, expL]
  ·rw [size_data, hsz]; omega
  ·rw [size_data, hsz]; omega
  ·have h := trim_noughts _ (decN_head (v := U * 10 ^ n) (Nat.mul_ne_zero hU zo)) 0
   refine (figT_of ?_).symm
   simpa using h
  ·exact (SF.nearE_ten (M := U) (t := n) (u := y) (p := f) (E := 0) zo).1 h1
 ·rw [if_neg c1]
  have hEf : ∀ (E : Int), E = f → U ≠ 0 ∧ Reads y E U ∧ s.size ≤ 60 ∧ -500 ≤ E ∧ E ≤ 500 := fun E e => ⟨hU, e ▸ h1, by omega, by omega, by omega⟩
  have hsU : (decN U).size = s.size := by rw [hs]
  by_cases c2 : 0 < f + k ∧ f + k ≤ 21
  ·obtain ⟨n, hn⟩ : ∃ n : Nat, f + k = n := ⟨(f + k).toNat, by omega⟩
   have hnk : n < k := by omega
   rw [if_pos c2]
   have htx : (minusT false ++ s.extract 0 (f + k).toNat ++ (⟨#[46]⟩ : ByteArray) ++ s.extract (f + k).toNat k).data.toList = s.data.toList.take n ++ (46 :: s.data.toList.drop n) := by
    rw [append_data, append_data, append_data, hme, cut_list, cut_list, show (f + (k : Int)).toNat = n by omega, List.drop_zero, Nat.sub_zero, List.take_of_length_le (l := s.data.toList.drop n) (by rw [List.length_drop]; omega)]
    simp
   have hne : s.data.toList.drop n ≠ [] := fun h => by
    have := congrArg List.length h
    rw [List.length_drop] at this
    simp only [List.length_nil] at this
    omega
   refine ⟨U, f, s.data.toList.take n, s.data.toList.drop n, [], 43, ⟨?_, ?_, ?_, ?_, by simp, fun b hb => hdg b (List.mem_of_mem_take hb), fun b hb => hdg b (List.mem_of_mem_drop hb), by simp, .inl rfl, ?_, ?_⟩, by rw [hsU]; exact hEf f rfl⟩
   ·rw [htx, dotL_some hne, expL_nil, List.append_nil]
   ·rw [List.length_take]; omega
   ·rw [List.length_take]; omega
   ·rw [List.length_drop]; omega
   ·refine (figT_of ?_).symm
    rw [List.take_append_drop, hs]; exact htr0
   ·rw [if_neg (by decide), List.length_drop, hlen]
    simp only [valD, List.foldl_nil]
    omega
  ·rw [if_neg c2]
   by_cases c3 : -6 < f + k ∧ f + k ≤ 0
   ·obtain ⟨n, hn⟩ : ∃ n : Nat, -(f + k) = n := ⟨(-(f + k)).toNat, by omega⟩
    rw [if_pos c3]
    have htx : (minusT false ++ (⟨#[48, 46]⟩ : ByteArray) ++ zer (-(f + k)).toNat ++ s).data.toList = [48] ++ (46 :: (List.replicate n 48 ++ s.data.toList)) := by
     rw [append_data, append_data, append_data, hme, show (-(f + (k : Int))).toNat = n by omega]
     simp [zer]
    have hne : List.replicate n 48 ++ s.data.toList ≠ [] := fun h => by
     have := congrArg List.length h
     rw [List.length_append, hlen] at this
     simp only [List.length_nil] at this
     omega
    refine ⟨U, f, [48], List.replicate n 48 ++ s.data.toList, [], 43, ⟨?_, by simp, by simp, ?_, by simp, ?_, ?_, by simp, .inl rfl, ?_, ?_⟩, by rw [hsU]; exact hEf f rfl⟩
    ·rw [htx, dotL_some hne, expL_nil, List.append_nil]
    ·rw [List.length_append, List.length_replicate]; omega
    ·intro b hb
     rw [List.mem_singleton.1 hb]; exact ⟨by decide, by decide⟩
    ·intro b hb
     rcases List.mem_append.1 hb with h | h
     ·rw [List.eq_of_mem_replicate h]; exact ⟨by decide, by decide⟩
     ·exact hdg b h
    ·have h := htr (n + 1)
     refine (figT_of ?_).symm
     rw [List.replicate_succ] at h
     rw [hs]
     exact h
    ·rw [if_neg (by decide), List.length_append, List.length_replicate, hlen]
     simp only [valD, List.foldl_nil]
     omega
   ·rw [if_neg c3]
    -- the first figure, a point, the others, and a power of ten
    have hout : (outT false s).data.toList = s.data.toList.take 1 ++ dotL (s.data.toList.drop 1) := by
     unfold outT
     rw [← hk]
     by_cases h : 1 < k
     ·have hne : s.data.toList.drop 1 ≠ [] := fun h => by
       have := congrArg List.length h
       rw [List.length_drop] at this
       simp only [List.length_nil] at this
       omega
      rw [if_pos h, dotL_some hne, append_data, append_data, append_data, hme, cut_list, cut_list, List.drop_zero, Nat.sub_zero, List.take_of_length_le (l := s.data.toList.drop 1) (by rw [List.length_drop]; omega)]
      simp
     ·have hne : s.data.toList.drop 1 = [] := List.drop_eq_nil_of_le zo
      rw [if_neg h, hne, dotL_nil, append_data, hme, cut_list, List.drop_zero, Nat.sub_zero]
      simp
    have hall : ∀ (sg : UInt8) (m : Nat), sg = 43 ∨ sg = 45 → 1 ≤ m → m ≤ 900 → f = (if sg = 45 then -(m : Int) else (m : Int)) - ((k : Int) - 1) → ∀ t : ByteArray, t.data.toList = (outT false s).data.toList ++ (101 :: sg :: (decN m).data.toList) →
      ∃ V E D1 D2 D3 sg, Told t (decN V) E D1 D2 D3 sg ∧ V ≠ 0 ∧ Reads y E V ∧ (decN V).size ≤ 60 ∧ -500 ≤ E ∧ E ≤ 500 := by
     intro sg m hsg hm1 hm2 hf t ht
     have hmp := decN_pos m
     have hms : (decN m).size ≤ 3 := (decN_size m 3 zo).2 zo
     have hne : (decN m).data.toList ≠ [] := fun h => by
      have := congrArg List.length h
      rw [size_data] at this
      simp only [List.length_nil] at this
      omega
     refine ⟨U, f, s.data.toList.take 1, s.data.toList.drop 1, (decN m).data.toList, sg, ⟨?_, ?_, ?_, ?_, ?_, fun b hb => hdg b (List.mem_of_mem_take hb), fun b hb => hdg b (List.mem_of_mem_drop hb), decN_dg m, hsg, ?_, ?_⟩, by rw [hsU]; exact hEf f rfl⟩
     ·rw [ht, hout, expL_some sg hne, List.append_assoc]
     ·rw [List.length_take]; omega
     ·rw [List.length_take]; omega
     ·rw [List.length_drop]; omega
     ·rw [size_data]; exact hms
     ·refine (figT_of ?_).symm
      rw [List.take_append_drop, hs]; exact htr0
     ·rw [valD_decN, List.length_drop, hlen, hf]
      split <;> omega
    by_cases c4 : f + k - 1 < 0
    ·obtain ⟨m, hm⟩ : ∃ m : Nat, 1 - (f + k) = m := ⟨(1 - (f + k)).toNat, by omega⟩
     rw [if_pos c4, hm, dec_of_nat]
     refine hall 45 m (.inr rfl) zo zo (by rw [if_pos rfl]; omega) _ ?_
     rw [append_data, append_data, List.append_assoc]
     rfl
    ·obtain ⟨m, hm⟩ : ∃ m : Nat, f + k - 1 = m := ⟨(f + k - 1).toNat, by omega⟩
     rw [if_neg c4, hm, dec_of_nat]
     refine hall 43 m (.inl rfl) zo zo (by rw [if_neg (by decide)]; omega) _ ?_
     rw [append_data, append_data, List.append_assoc]
     rfl
theorem show_minus (s : ByteArray) (n : Int) : showP true s n = (⟨#[45]⟩ : ByteArray) ++ showP false s n := by
 have e0 : ∀ a : ByteArray, (⟨#[]⟩ : ByteArray) ++ a = a := fun a => by apply byteArray_ext; rw [append_data]; rfl
 have m1 : minusT true = ⟨#[45]⟩ := rfl
 have m0 : minusT false = ⟨#[]⟩ := rfl
 have ho : outT true s = (⟨#[45]⟩ : ByteArray) ++ outT false s := by
  unfold outT
  rw [m1, m0]
  split <;> simp only [e0, ByteArray.append_assoc]
 unfold showP
 rw [m1, m0, ho]
 repeat' split
 all_goals simp only [e0, ByteArray.append_assoc]
theorem atoi_dg {D : List UInt8} (hne : D ≠ []) (hd : ∀ b ∈ D, isDg b) : Lib.atoi D = some ((valD D : Nat) : Int) := by
 have h : ∀ (l : List UInt8) (n : Nat), (∀ b ∈ l, isDg b) → Lib.decFrom n l = some (l.foldl (fun n b => 10 * n + (b.toNat - 48)) n) := by
  intro l
  induction l with
  | nil => intro n _; rfl
  | cons b r ih =>
   intro n hl
   have hb := hl b (by simp)
   unfold isDg at hb
   unfold Lib.decFrom Lib.digitVal
   rw [if_pos hb]
   show Lib.decFrom (n * 10 + (b.toNat - 48)) r = _
   rw [ih _ (fun c hc => hl c (by simp [hc])), Nat.mul_comm n 10]
   rfl
 cases D with
 | nil => exact absurd rfl hne
 | cons b r =>
  have hb := hd b (by simp)
  unfold isDg at hb
  have h45 : ¬ (b == 45) = true := fun h => by rw [eq_of_beq h] at hb; exact absurd hb.1 (by decide)
  have h43 : ¬ (b == 43) = true := fun h => by rw [eq_of_beq h] at hb; exact absurd hb.1 (by decide)
  unfold Lib.atoi
  dsimp only
  rw [if_neg h45, if_neg h43]
  unfold Lib.decNat
  rw [if_neg (by simp), h _ 0 hd]
  rfl
theorem no_dg46 : ¬ isDg 46 := fun h => absurd h.1 (by decide)
theorem no_dg101 : ¬ isDg 101 := fun h => absurd h.2 (by decide)
theorem exp_head (sg : UInt8) (D : List UInt8) : ∀ c, (expL sg D).head? = some c → c = 101 := by
 intro c h
 unfold expL at h
 split at h
 ·cases h
 ·exact (Option.some.inj h).symm
theorem rest_head (D2 D3 : List UInt8) (sg : UInt8) : ∀ c, (dotL D2 ++ expL sg D3).head? = some c → ¬ isDg c := by
 intro c h
 by_cases h2 : D2 = []
 ·rw [h2, dotL_nil, List.nil_append] at h
  rw [exp_head sg D3 c h]; exact no_dg101
 ·rw [dotL_some h2, List.cons_append] at h
  rw [← Option.some.inj h]; exact no_dg46
theorem impl_digB (a : Int) : impl_isDigit.f a = some (decide (48 ≤ a ∧ a ≤ 57)) := by
 unfold impl_isDigit.f
 by_cases h : a ≥ 48
 ·rw [if_pos h]; simp; omega
 ·rw [if_neg h]; simp; omega
theorem near_given (s : ByteArray) (E : Int) (hs : s.size ≤ 140737488351232) : impl_Nearest.f s E = some ((G.nearW s E : Nat) : Int) := by
 unfold impl_Nearest.f G.impl_Nearest; rw [if_pos hs]
theorem run_eq_l0 (k : Nat) (x0 : ByteArray) (x1 : Int) (x5 : Int) : impl_digitRun.l0 (k + 1) x0 x1 x5 = if (wrap64 (x1 + x5)) < (x0.size : Int) then (if 0 ≤ (wrap64 (x1 + x5)) then ((impl_isDigit.f (bt x0 (wrap64 (x1 + x5)))).bind fun t231 => (if t231 = true then (impl_digitRun.l0 k x0 x1 (wrap64 (x5 + 1))) else (some x5))) else (none)) else (some x5) := rfl
theorem read_eq_j0 (k : Nat) (x0 : ByteArray) (x5 : ByteArray) (x6 : Int) (x7 : Int) (x31 : Bool) : impl_ReadNumber.j0 (k + 1) x0 x5 x6 x7 x31 = if x31 = true then ((impl_digitRun.f k x0 (wrap64 (x6 + 1))).bind fun t234 => ((impl_within.f t234 1 30).bind fun t235 => (if t235 = true then (if 0 ≤ (wrap64 (x6 + 1)) then (if (wrap64 (x6 + 1)) ≤ (wrap64 ((wrap64 (x6 + 1)) + t234)) then (if (wrap64 ((wrap64 (x6 + 1)) + t234)) ≤ (x0.size : Int) then (if x5.size + (x0.extract ((wrap64 (x6 + 1)) : Int).toNat ((wrap64 ((wrap64 (x6 + 1)) + t234)) : Int).toNat).size ≤ 9223372036854775807 then (impl_ReadNumber.j1 k x0 (x5 ++ (x0.extract ((wrap64 (x6 + 1)) : Int).toNat ((wrap64 ((wrap64 (x6 + 1)) + t234)) : Int).toNat)) (wrap64 ((wrap64 (x6 + 1)) + t234)) (wrap64 (-t234))) else (none)) else (none)) else (none)) else (none)) else (some (0, false))))) else (impl_ReadNumber.j1 k x0 x5 x6 x7) := rfl
theorem read_eq_j1 (k : Nat) (x0 : ByteArray) (x5 : ByteArray) (x6 : Int) (x7 : Int) : impl_ReadNumber.j1 (k + 1) x0 x5 x6 x7 = if x6 < (x0.size : Int) then (if 0 ≤ x6 then (impl_ReadNumber.j2 k x0 x5 x6 x7 ((bt x0 x6) == 101)) else (none)) else (impl_ReadNumber.j2 k x0 x5 x6 x7 false) := rfl
theorem read_eq_j2 (k : Nat) (x0 : ByteArray) (x5 : ByteArray) (x6 : Int) (x7 : Int) (x64 : Bool) : impl_ReadNumber.j2 (k + 1) x0 x5 x6 x7 x64 = if x64 = true then (if (wrap64 (x6 + 1)) < (x0.size : Int) then (if 0 ≤ (wrap64 (x6 + 1)) then (impl_ReadNumber.j3 k x0 x5 (wrap64 (x6 + 1)) x7 ((bt x0 (wrap64 (x6 + 1))) == 45)) else (none)) else (impl_ReadNumber.j3 k x0 x5 (wrap64 (x6 + 1)) x7 false)) else (impl_ReadNumber.j6 k x0 x5 x6 x7) := rfl
theorem read_eq_j6 (k : Nat) (x0 : ByteArray) (x5 : ByteArray) (x6 : Int) (x7 : Int) : impl_ReadNumber.j6 (k + 1) x0 x5 x6 x7 = if x6 = (x0.size : Int) then ((strings_TrimLeft.f x5 (⟨#[48]⟩ : ByteArray)).bind fun t240 => (if t240.toList = ([] : List UInt8) then ((impl_Nearest.f (⟨#[48]⟩ : ByteArray) x7).bind fun t241 => (some (t241, true))) else ((impl_Nearest.f t240 x7).bind fun t242 => (some (t242, true))))) else (some (0, false)) := rfl
theorem read_eq_j3 (k : Nat) (x0 : ByteArray) (x5 : ByteArray) (x6 : Int) (x7 : Int) (x9 : Bool) : impl_ReadNumber.j3 (k + 1) x0 x5 x6 x7 x9 = if x9 = true then (impl_ReadNumber.j4 k x0 x5 x6 x7 x9 true) else (if x6 < (x0.size : Int) then (if 0 ≤ x6 then (impl_ReadNumber.j4 k x0 x5 x6 x7 x9 ((bt x0 x6) == 43)) else (none)) else (impl_ReadNumber.j4 k x0 x5 x6 x7 x9 false)) := rfl
theorem read_eq_j4 (k : Nat) (x0 : ByteArray) (x5 : ByteArray) (x6 : Int) (x7 : Int) (x9 : Bool) (x89 : Bool) : impl_ReadNumber.j4 (k + 1) x0 x5 x6 x7 x9 x89 = if x89 = true then (impl_ReadNumber.j5 k x0 x5 (wrap64 (x6 + 1)) x7 x9) else (impl_ReadNumber.j5 k x0 x5 x6 x7 x9) := rfl
theorem read_eq_j5 (k : Nat) (x0 : ByteArray) (x5 : ByteArray) (x6 : Int) (x7 : Int) (x9 : Bool) : impl_ReadNumber.j5 (k + 1) x0 x5 x6 x7 x9 = (impl_digitRun.f k x0 x6).bind fun t236 => ((impl_within.f t236 1 3).bind fun t237 => (if t237 = true then (if 0 ≤ x6 then (if x6 ≤ (wrap64 (x6 + t236)) then (if (wrap64 (x6 + t236)) ≤ (x0.size : Int) then ((strconv_Atoi.f (x0.extract (x6 : Int).toNat ((wrap64 (x6 + t236)) : Int).toNat)).bind fun bt238 => (if x9 = true then (impl_ReadNumber.j6 k x0 x5 (wrap64 (x6 + t236)) (wrap64 (x7 + (wrap64 (-bt238.1))))) else (impl_ReadNumber.j6 k x0 x5 (wrap64 (x6 + t236)) (wrap64 (x7 + bt238.1))))) else (none)) else (none)) else (none)) else (some (0, false)))) := rfl
theorem wsum {a b : Nat} (h : a + b < 9223372036854775807) : wrap64 ((a : Int) + (b : Int)) = ((a + b : Nat) : Int) := by rw [w64 zo zo]; omega
theorem at_byte {t : ByteArray} {X Y : List UInt8} {b : UInt8} (h : t.data.toList = X ++ b :: Y) : X.length < t.size ∧ bt t (X.length : Int) = (b.toNat : Int) := by
 have hl : t.size = X.length + (Y.length + 1) := by rw [← size_data, h, List.length_append, List.length_cons]
 have h1 : X.length < t.size := by omega
 refine ⟨h1, ?_⟩
 rw [bt_list t X.length h1]
 have h2 : t.data.toList[X.length]? = some b := by rw [h, List.getElem?_append_right (Nat.le_refl _), Nat.sub_self]; rfl
 rw [List.getElem?_eq_getElem (by rw [size_data]; exact h1)] at h2
 rw [Option.some.inj h2]
theorem cut_mid {t : ByteArray} {X Y Z : List UInt8} (h : t.data.toList = X ++ (Y ++ Z)) {a b : Nat} (ha : a = X.length) (hb : b = X.length + Y.length) : t.extract a b = ⟨Y.toArray⟩ := by
 apply byteArray_ext
 subst ha hb
 rw [cut_list, h, List.drop_left, show X.length + Y.length - X.length = Y.length by omega, List.take_left]
theorem run_from {t : ByteArray} {A C : List UInt8} (hs : t.size ≤ 1000) (hC : ∀ c, C.head? = some c → ¬ isDg c) : ∀ (B2 B1 : List UInt8), (∀ b ∈ B2, isDg b) → t.data.toList = A ++ (B1 ++ (B2 ++ C)) →
  Ev (fun k => impl_digitRun.l0 k t (A.length : Int) (B1.length : Int)) (((B1 ++ B2).length : Nat) : Int) := by
 intro B2
 induction B2 with
 | nil =>
  intro B1 _ h
  have hl : t.size = A.length + (B1.length + C.length) := by rw [← size_data, h, List.length_append, List.length_append, List.nil_append]
  refine Ev.step (fun k => run_eq_l0 k ..) ?_
  rw [wsum zo, ← List.length_append, List.append_nil]
  cases C with
  | nil => exact ev_else (by rw [List.length_append]; simp at hl; omega) (Ev.now _)
  | cons c C =>
   have h2 : t.data.toList = (A ++ B1) ++ c :: C := by rw [h, List.nil_append, List.append_assoc]
   obtain ⟨h3, h4⟩ := at_byte h2
   have h5 := hC c rfl
   refine ev_if zo (ev_if zo ?_)
   rw [h4]
   refine Ev.bind (ev_const (impl_digB _)) (ev_else ?_ (Ev.now _))
   rw [decide_eq_true_iff]
   unfold isDg at h5
   omega
 | cons b B2 ih =>
  intro B1 hd h
  have hb := hd b (by simp)
  unfold isDg at hb
  have hl : t.size = A.length + (B1.length + (B2.length + 1 + C.length)) := by rw [← size_data, h]; simp; omega
  have h2 : t.data.toList = (A ++ B1) ++ b :: (B2 ++ C) := by rw [h]; simp
  obtain ⟨h3, h4⟩ := at_byte h2
  have h5 := ih (B1 ++ [b]) (fun c hc => hd c (by simp [hc])) (by rw [h]; simp)
  rw [List.append_assoc, List.length_append, List.length_singleton] at h5
  refine Ev.step (fun k => run_eq_l0 k ..) ?_
  rw [wsum zo, ← List.length_append]
  refine ev_if zo (ev_if zo ?_)
  rw [h4]
  refine Ev.bind (ev_const (impl_digB _)) (ev_if (by rw [decide_eq_true_iff]; omega) ?_)
  rw [w64s zo]
  exact h5
theorem run_at {t : ByteArray} {A B C : List UInt8} (hs : t.size ≤ 1000) (h : t.data.toList = A ++ (B ++ C)) (hB : ∀ b ∈ B, isDg b) (hC : ∀ c, C.head? = some c → ¬ isDg c) : Ev (fun k => impl_digitRun.f k t (A.length : Int)) (B.length : Int) := by
 have h1 := run_from (A := A) hs hC B [] hB (by rw [h, List.nil_append])
 unfold impl_digitRun.f
 exact h1
theorem read_last {t : ByteArray} {l : List UInt8} (E : Int) (hl : l.length ≤ 100) (hs : t.size ≤ 1000) : Ev (fun k => impl_ReadNumber.j6 k t ⟨l.toArray⟩ (t.size : Int) E) (((G.nearW (figT l) E : Nat) : Int), true) := by
 have htl : strings_TrimLeft.f ⟨l.toArray⟩ (⟨#[48]⟩ : ByteArray) = some ⟨(Lib.trimLeftB l 48).toArray⟩ := by
  unfold strings_TrimLeft.f G.strings_TrimLeft
  rw [if_pos rfl]
 have hle : (Lib.trimLeftB l 48).length ≤ l.length := by
  unfold Lib.trimLeftB
  exact (List.dropWhile_sublist _).length_le
 refine Ev.step (fun k => read_eq_j6 k ..) (ev_if rfl (Ev.bind (ev_const htl) ?_))
 unfold figT
 by_cases hc : Lib.trimLeftB l 48 = []
 ·rw [if_pos hc]
  refine ev_if (by rw [ByteArray.toList_eq, hc]) (Ev.bind (ev_const (near_given _ E ?_)) (Ev.now _))
  show 1 ≤ 140737488351232
  omega
 ·rw [if_neg hc]
  refine ev_else (by rw [ByteArray.toList_eq]; simpa using hc) (Ev.bind (ev_const (near_given _ E ?_)) (Ev.now _))
  show (Lib.trimLeftB l 48).toArray.size ≤ _
  rw [List.size_toArray]
  omega
theorem read_exp {t : ByteArray} {H l D3 : List UInt8} {sg : UInt8} {q : Int} (h : t.data.toList = H ++ expL sg D3) (hs : t.size ≤ 1000) (hl : l.length ≤ 100) (h3 : D3.length ≤ 3) (hd : ∀ b ∈ D3, isDg b) (hsg : sg = 43 ∨ sg = 45) (hq0 : -100 ≤ q) (hq1 : q ≤ 100) :
  Ev (fun k => impl_ReadNumber.j1 k t ⟨l.toArray⟩ (H.length : Int) q) (((G.nearW (figT l) (q + (if sg = 45 then -((valD D3 : Nat) : Int) else ((valD D3 : Nat) : Int))) : Nat) : Int), true) := by
 by_cases hD : D3 = []
 ·subst hD
  have hsz : t.size = H.length := by rw [← size_data, h, expL_nil, List.append_nil]
  have hz : q + (if sg = 45 then -((valD [] : Nat) : Int) else ((valD [] : Nat) : Int)) = q := by
   simp [valD]
  rw [hz, ← hsz]
  refine Ev.step (fun k => read_eq_j1 k ..) (ev_else zo ?_)
  exact Ev.step (fun k => read_eq_j2 k ..) (ev_else (by decide) (read_last q hl hs))
 ·have h1 : t.data.toList = H ++ 101 :: (sg :: D3) := by rw [h, expL_some sg hD]
  have h2 : t.data.toList = (H ++ [101]) ++ sg :: D3 := by rw [h1]; simp
  have h4 : t.data.toList = (H ++ [101, sg]) ++ (D3 ++ []) := by rw [h1]; simp
  have hsz : t.size = H.length + (D3.length + 2) := by rw [← size_data, h1]; simp
  obtain ⟨b1, b2⟩ := at_byte h1
  obtain ⟨c1, c2⟩ := at_byte h2
  rw [List.length_append, List.length_singleton] at c1 c2
  have hrun := run_at hs h4 hd (fun c hc => by cases hc)
  have hlen : ((H ++ [101, sg]).length : Int) = ((H.length + 1 + 1 : Nat) : Int) := by rw [List.length_append]; rfl
  rw [hlen] at hrun
  have hD1 : 1 ≤ D3.length := List.length_pos_iff.2 hD
  have hv : valD D3 < 1000 := Nat.lt_of_lt_of_le (valD_lt D3 hd) (Nat.pow_le_pow_right zo h3)
  have hcut : t.extract (H.length + 1 + 1) (H.length + 1 + 1 + D3.length) = ⟨D3.toArray⟩ := cut_mid h4 (by simp) (by simp)
  have hat : strconv_Atoi.f ⟨D3.toArray⟩ = some (((valD D3 : Nat) : Int), none) := by
   unfold strconv_Atoi.f G.strconv_Atoi
   rw [if_pos (by show D3.toArray.size ≤ 18; rw [List.size_toArray]; omega)]
   show (Lib.atoi D3.toArray.toList).map _ = _
   rw [List.toList_toArray, atoi_dg hD hd]
   rfl
  have hj5 : ∀ below : Bool, Ev (fun k => impl_ReadNumber.j5 k t ⟨l.toArray⟩ ((H.length + 1 + 1 : Nat) : Int) q below) (((G.nearW (figT l) (q + (if below = true then -((valD D3 : Nat) : Int) else ((valD D3 : Nat) : Int))) : Nat) : Int), true) := by
   intro below
   refine Ev.step (fun k => read_eq_j5 k ..) (Ev.bind hrun (Ev.bind (ev_const (impl_inB _ _ _)) (ev_if (decide_eq_true ⟨by omega, by omega⟩) ?_)))
   rw [wsum zo, Int.toNat_natCast, Int.toNat_natCast, hcut]
   refine ev_if zo (ev_if zo (ev_if zo (Ev.bind (ev_const hat) ?_)))
   have hz : ((H.length + 1 + 1 + D3.length : Nat) : Int) = (t.size : Int) := by omega
   cases below with
   | true =>
    refine ev_if rfl ?_
    show Ev (fun k => impl_ReadNumber.j6 k t ⟨l.toArray⟩ _ (wrap64 (q + wrap64 (-((valD D3 : Nat) : Int))))) _
    rw [hz, w64 (x := -((valD D3 : Nat) : Int)) zo zo, w64 zo zo]
    exact read_last _ hl hs
   | false =>
    refine ev_else (by decide) ?_
    show Ev (fun k => impl_ReadNumber.j6 k t ⟨l.toArray⟩ _ (wrap64 (q + ((valD D3 : Nat) : Int)))) _
    rw [hz, w64 (x := q + ((valD D3 : Nat) : Int)) zo zo]
    exact read_last _ hl hs
  refine Ev.step (fun k => read_eq_j1 k ..) (ev_if zo (ev_if zo ?_))
  rw [b2]
  refine Ev.step (fun k => read_eq_j2 k ..) (ev_if rfl ?_)
  rw [w64s zo]
  refine ev_if zo (ev_if zo ?_)
  rw [c2]
  rcases hsg with rfl | rfl
  ·have h := hj5 false
   refine Ev.step (fun k => read_eq_j3 k ..) (ev_else (by decide) (ev_if zo (ev_if zo ?_)))
   rw [c2]
   refine Ev.step (fun k => read_eq_j4 k ..) (ev_if rfl ?_)
   rw [w64s zo]
   exact h
  ·have h := hj5 true
   refine Ev.step (fun k => read_eq_j3 k ..) (ev_if rfl ?_)
   refine Ev.step (fun k => read_eq_j4 k ..) (ev_if rfl ?_)
   rw [w64s zo]
   exact h
theorem read_told {t g : ByteArray} {E : Int} {D1 D2 D3 : List UInt8} {sg : UInt8} (h : Told t g E D1 D2 D3 sg) : Ev (fun k => impl_ReadNumber.f k t) (((G.nearW g E : Nat) : Int), true) := by
 obtain ⟨h1, l1, u1, u2, u3, d1, d2, d3, hsg, ht, hE⟩ := h
 have hsz : t.size ≤ 100 := by
  have e1 : (dotL D2).length ≤ D2.length + 1 := by unfold dotL; split <;> simp
  have e2 : (expL sg D3).length ≤ D3.length + 2 := by unfold expL; split <;> simp
  rw [← size_data, h1, List.length_append, List.length_append]
  omega
 have hrun := run_at (t := t) (A := []) (B := D1) (C := dotL D2 ++ expL sg D3) zo (by rw [h1, List.nil_append]) d1 (rest_head D2 D3 sg)
 have hle : D1.length ≤ t.size := by rw [← size_data, h1, List.length_append]; omega
 have hcut1 : t.extract 0 D1.length = ⟨D1.toArray⟩ := cut_mid (X := []) (by rw [h1, List.nil_append]) rfl (by simp)
 have hE2 : E = -(D2.length : Int) + (if sg = 45 then -((valD D3 : Nat) : Int) else ((valD D3 : Nat) : Int)) := by omega
 unfold impl_ReadNumber.f
 refine Ev.bind hrun (Ev.bind (ev_const (impl_inB _ _ _)) (ev_if (decide_eq_true ⟨by omega, by omega⟩) (ev_if zo (ev_if zo ?_))))
 rw [Int.toNat_natCast, hcut1]
 by_cases hD : D2 = []
 ·subst hD
  rw [dotL_nil, List.nil_append] at h1
  have hx := read_exp (l := D1) (q := 0) h1 zo zo u3 d3 hsg zo zo
  rw [ht, hE2, List.append_nil, show (-(([] : List UInt8).length : Int)) = 0 by simp]
  have hj0 : Ev (fun k => impl_ReadNumber.j0 k t ⟨D1.toArray⟩ (D1.length : Int) 0 false) (((G.nearW (figT D1) (0 + (if sg = 45 then -((valD D3 : Nat) : Int) else ((valD D3 : Nat) : Int))) : Nat) : Int), true) :=
   Ev.step (fun k => read_eq_j0 k ..) (ev_else (by decide) hx)
  by_cases hD3 : D3 = []
  ·have hs2 : t.size = D1.length := by rw [← size_data, h1, hD3, expL_nil, List.append_nil]
   exact ev_else zo hj0
  ·obtain ⟨b1, b2⟩ := at_byte (h1.trans (congrArg (D1 ++ ·) (expL_some sg hD3)))
   refine ev_if zo ?_
   rw [b2]
   exact hj0
 ·have h2 : t.data.toList = D1 ++ 46 :: (D2 ++ expL sg D3) := by rw [h1, dotL_some hD]; simp
  have h3 : t.data.toList = (D1 ++ [46]) ++ (D2 ++ expL sg D3) := by rw [h2]; simp
  have h4 : t.data.toList = (D1 ++ (46 :: D2)) ++ expL sg D3 := by rw [h2]; simp
  have hsz2 : D1.length + 1 + D2.length ≤ t.size := by rw [← size_data, h2]; simp; omega
  obtain ⟨b1, b2⟩ := at_byte h2
  have hrun2 := run_at zo h3 d2 (fun c hc => by rw [exp_head sg D3 c hc]; exact no_dg101)
  rw [List.length_append, List.length_singleton] at hrun2
  have hD1 : 1 ≤ D2.length := List.length_pos_iff.2 hD
  have hcut2 : t.extract (D1.length + 1) (D1.length + 1 + D2.length) = ⟨D2.toArray⟩ := cut_mid h3 (by simp) (by simp)
  have hx := read_exp (l := D1 ++ D2) (q := -(D2.length : Int)) h4 zo (by rw [List.length_append]; omega) u3 d3 hsg zo zo
  have hlen : ((D1 ++ (46 :: D2)).length : Int) = ((D1.length + 1 + D2.length : Nat) : Int) := by rw [List.length_append, List.length_cons]; omega
  rw [hlen] at hx
  have happ : (⟨D1.toArray⟩ : ByteArray) ++ (⟨D2.toArray⟩ : ByteArray) = ⟨(D1 ++ D2).toArray⟩ := by apply byteArray_ext; rw [append_data]
  rw [ht, hE2]
  refine ev_if zo ?_
  rw [b2]
  refine Ev.step (fun k => read_eq_j0 k ..) (ev_if rfl ?_)
  rw [w64s zo]
  refine Ev.bind hrun2 (Ev.bind (ev_const (impl_inB _ _ _)) (ev_if (decide_eq_true ⟨by omega, by omega⟩) ?_))
  rw [wsum zo, Int.toNat_natCast, Int.toNat_natCast, hcut2, happ, w64 (x := -(D2.length : Int)) zo zo]
  refine ev_if zo (ev_if zo (ev_if zo (ev_if ?_ hx)))
  show D1.toArray.size + D2.toArray.size ≤ _
  rw [List.size_toArray, List.size_toArray]
  omega
theorem spec_nan (x : Nat) (hx : x < 18446744073709551616) : Ev (fun k => spec_l03Nan.f k (x : Int)) (nanB x) := by
 unfold spec_l03Nan.f
 refine Ev.bind (spec_parts x hx) ?_
 rw [partsN_kind]
 exact Ev.now _
section
open CR CF CG CN
def negM (x : Nat) : Nat := if nanB x = true then 9221120237041090560 else negT x
theorem negXor (x : Nat) (hx : x < 18446744073709551616) : Go.bits .xor .u64 (x : Int) 9223372036854775808 = ((negT x : Nat) : Int) := by
 have h := xor_u64 x 9223372036854775808 hx zo
 have e : ((9223372036854775808 : Nat) : Int) = 9223372036854775808 := rfl
 rw [negT_xor x hx, e] at h
 exact h
end
section
open CN
theorem spec_neg_nat (x : Nat) (hx : x < 18446744073709551616) : Ev (fun k => spec_Negate.f k (x : Int)) ((negM x : Nat) : Int) := by
 unfold spec_Negate.f negM
 refine Ev.bind (spec_nan x hx) ?_
 by_cases h : nanB x = true
 ·simp only [if_pos h]; exact Ev.now _
 ·simp only [if_neg h]
  refine Ev.bind spec_pow63 ?_
  rw [negXor x hx]
  exact Ev.now _
end
theorem shows_eq_l0 (k : Nat) (x6 : List Int) (x7 : Int) : laws_FnShows.l0 (k + 1) x6 x7 = if x7 < 2 then (if 0 ≤ x7 then (if x7 < (x6.length : Int) then ((impl_ShowNumber.f k (rd x6 x7)).bind fun t257 => ((spec_PartsOfNumber.f k (rd x6 x7)).bind fun bt258 => ((impl_ReadNumber.f k t257).bind fun bt262 => (if bt258.1 = 1 then (if t257.toList = ([78, 97, 78] : List UInt8) then (if bt258.1 = 2 then (if t257.toList = ([73, 110, 102, 105, 110, 105, 116, 121] : List UInt8) then (if bt258.1 = 4 then (if bt262.2 = true then (laws_FnShows.j1 k x6 x7 (rd x6 x7) t257 bt258.1 (bt262.1 != (rd x6 x7))) else (laws_FnShows.j1 k x6 x7 (rd x6 x7) t257 bt258.1 true)) else (if bt258.1 = 3 then (if bt262.2 = true then (laws_FnShows.j1 k x6 x7 (rd x6 x7) t257 bt258.1 (bt262.1 != (rd x6 x7))) else (laws_FnShows.j1 k x6 x7 (rd x6 x7) t257 bt258.1 true)) else (laws_FnShows.j1 k x6 x7 (rd x6 x7) t257 bt258.1 false))) else (laws_FnShows.j1 k x6 x7 (rd x6 x7) t257 bt258.1 true)) else (if bt258.1 = 4 then (if bt262.2 = true then (laws_FnShows.j1 k x6 x7 (rd x6 x7) t257 bt258.1 (bt262.1 != (rd x6 x7))) else (laws_FnShows.j1 k x6 x7 (rd x6 x7) t257 bt258.1 true)) else (if bt258.1 = 3 then (if bt262.2 = true then (laws_FnShows.j1 k x6 x7 (rd x6 x7) t257 bt258.1 (bt262.1 != (rd x6 x7))) else (laws_FnShows.j1 k x6 x7 (rd x6 x7) t257 bt258.1 true)) else (laws_FnShows.j1 k x6 x7 (rd x6 x7) t257 bt258.1 false)))) else (laws_FnShows.j1 k x6 x7 (rd x6 x7) t257 bt258.1 true)) else (if bt258.1 = 2 then (if t257.toList = ([73, 110, 102, 105, 110, 105, 116, 121] : List UInt8) then (if bt258.1 = 4 then (if bt262.2 = true then (laws_FnShows.j1 k x6 x7 (rd x6 x7) t257 bt258.1 (bt262.1 != (rd x6 x7))) else (laws_FnShows.j1 k x6 x7 (rd x6 x7) t257 bt258.1 true)) else (if bt258.1 = 3 then (if bt262.2 = true then (laws_FnShows.j1 k x6 x7 (rd x6 x7) t257 bt258.1 (bt262.1 != (rd x6 x7))) else (laws_FnShows.j1 k x6 x7 (rd x6 x7) t257 bt258.1 true)) else (laws_FnShows.j1 k x6 x7 (rd x6 x7) t257 bt258.1 false))) else (laws_FnShows.j1 k x6 x7 (rd x6 x7) t257 bt258.1 true)) else (if bt258.1 = 4 then (if bt262.2 = true then (laws_FnShows.j1 k x6 x7 (rd x6 x7) t257 bt258.1 (bt262.1 != (rd x6 x7))) else (laws_FnShows.j1 k x6 x7 (rd x6 x7) t257 bt258.1 true)) else (if bt258.1 = 3 then (if bt262.2 = true then (laws_FnShows.j1 k x6 x7 (rd x6 x7) t257 bt258.1 (bt262.1 != (rd x6 x7))) else (laws_FnShows.j1 k x6 x7 (rd x6 x7) t257 bt258.1 true)) else (laws_FnShows.j1 k x6 x7 (rd x6 x7) t257 bt258.1 false)))))))) else (none)) else (none)) else (some true) := rfl
theorem shows_eq_j1 (k : Nat) (x6 : List Int) (x7 : Int) (x8 : Int) (x9 : ByteArray) (x10 : Int) (x74 : Bool) : laws_FnShows.j1 (k + 1) x6 x7 x8 x9 x10 x74 = if x74 = true then (some false) else (if x10 = 4 then ((spec_Negate.f k x8).bind fun t264 => ((impl_ShowNumber.f k t264).bind fun t265 => (if 1 + x9.size ≤ 9223372036854775807 then (if t265.toList = ((⟨#[45]⟩ : ByteArray) ++ x9).toList then (laws_FnShows.l0 k x6 (wrap64 (x7 + 1))) else (some false)) else (none)))) else (laws_FnShows.l0 k x6 (wrap64 (x7 + 1)))) := rfl
theorem shows_kind {L : List Int} {i x : Nat} {t : ByteArray} {p : Int × Bool × Int × Int} {y : Int × Bool} {r : Bool} (hi2 : i < 2) (hil : i < L.length) (hi : rd L (i : Int) = (x : Int))
  (h1 : Ev (fun k => impl_ShowNumber.f k (x : Int)) t) (h2 : Ev (fun k => spec_PartsOfNumber.f k (x : Int)) p) (h3 : Ev (fun k => impl_ReadNumber.f k t) y)
  (hk : (p.1 = 1 ∧ t.toList = [78, 97, 78]) ∨ (p.1 = 2 ∧ t.toList = [73, 110, 102, 105, 110, 105, 116, 121]) ∨ ((p.1 = 3 ∨ p.1 = 4) ∧ y = ((x : Int), true)))
  (hj : Ev (fun k => laws_FnShows.j1 k L (i : Int) (x : Int) t p.1 false) r) : Ev (fun k => laws_FnShows.l0 k L (i : Int)) r := by
 refine Ev.step (fun k => shows_eq_l0 k L i) (ev_if zo (ev_if zo (ev_if zo ?_)))
 rw [hi]
 refine Ev.bind h1 (Ev.bind h2 (Ev.bind h3 ?_))
 obtain ⟨c, b, m, e⟩ := p
 have hc : ∀ {n : Int}, c = n → (c, b, m, e).1 = n := fun h => h
 have hn : ∀ {n : Int}, c ≠ n → ¬ (c, b, m, e).1 = n := fun h => h
 rcases hk with ⟨h, ht⟩ | ⟨h, ht⟩ | ⟨h, rfl⟩
 ·have h : c = 1 := h
  exact ev_if (hc h) (ev_if ht (ev_else (hn zo) (ev_else (hn zo) (ev_else (hn zo) hj))))
 ·have h : c = 2 := h
  exact ev_else (hn zo) (ev_if (hc h) (ev_if ht (ev_else (hn zo) (ev_else (hn zo) hj))))
 ·have hv : ((((x : Int), true) : Int × Bool).1 != (x : Int)) = false := bne_self_eq_false _
  rw [← hv] at hj
  rcases h with h | h
  ·have h : c = 3 := h
   exact ev_else (hn zo) (ev_else (hn zo) (ev_else (hn zo) (ev_if (hc h) (ev_if rfl hj))))
  ·have h : c = 4 := h
   exact ev_else (hn zo) (ev_else (hn zo) (ev_if (hc h) (ev_if rfl hj)))
theorem read_none {t : ByteArray} {b : UInt8} {r : List UInt8} (ht : t.data.toList = b :: r) (hb : ¬ isDg b) (hs : t.size ≤ 1000) : Ev (fun k => impl_ReadNumber.f k t) (0, false) := by
 have hrun := run_at (t := t) (A := []) (B := []) (C := b :: r) hs (by rw [ht]; rfl) (fun c hc => by cases hc) (fun c hc => by rw [← Option.some.inj hc]; exact hb)
 unfold impl_ReadNumber.f
 exact Ev.bind hrun (Ev.bind (ev_const (impl_inB _ _ _)) (ev_else (by show ¬ decide ((1 : Int) ≤ 0 ∧ (0 : Int) ≤ 30) = true; decide) (Ev.now _)))
theorem read_zero : Ev (fun k => impl_ReadNumber.f k (⟨#[48]⟩ : ByteArray)) (0, true) := by
 have ht : Told (⟨#[48]⟩ : ByteArray) ⟨#[48]⟩ 0 [48] [] [] 43 := ⟨rfl, by decide, by decide, by decide, by decide, fun c hc => by rw [List.mem_singleton.1 hc]; exact ⟨by decide, by decide⟩, fun c hc => (by cases hc), fun c hc => (by cases hc), .inl rfl, by decide, by decide⟩
 have h := read_told ht
 have h0 : nearOk (⟨#[48]⟩ : ByteArray) 0 = false := by
  unfold nearOk
  rw [decide_eq_true (show bt (⟨#[48]⟩ : ByteArray) 0 = 48 from by decide)]
  simp
 rw [G.nearW_bad h0] at h
 exact h
section
open SF HD CQ
theorem read_neg {x M : Nat} {s : Bool} {e : Int} (hx : x < 9223372036854775808) (hr : Ieee.double.read x = .number s M e) : s = false ∧ Ieee.double.read (x + 9223372036854775808) = .number true M e := by
 obtain ⟨hs, hM2, he1, he2, hfull, henc, _⟩ := CG.read_num zo hr
 have hsf : s = false := by rw [hs]; unfold CG.sgn; exact decide_eq_false zo
 subst hsf
 have hlt : (e + 1074).toNat * 4503599627370496 + M < 9223372036854775808 := by omega
 have hy : x = (e + 1074).toNat * 4503599627370496 + M := by
  have h := henc
  unfold CR.enc at h
  split at h <;> omega
 have hr2 := CN.read_enc true M e hM2 he1 he2 hfull
 have hen : CR.enc true ((e + 1074).toNat * 4503599627370496 + M) = x + 9223372036854775808 := by
  rw [hy]
  unfold CR.enc
  rw [if_pos rfl]
  try omega
 rw [hen] at hr2
 exact ⟨rfl, hr2⟩
theorem show_size {y U : Nat} {f : Int} (h : Best y U f) : (showP false (decN U) (f + (decN U).size)).size ≤ 1000 := by
 obtain ⟨V, E, D1, D2, D3, sg, ht, _⟩ := show_told h
 obtain ⟨h1, l1, u1, u2, u3, _⟩ := ht
 have e1 : (dotL D2).length ≤ D2.length + 1 := by unfold dotL; split <;> simp
 have e2 : (expL sg D3).length ≤ D3.length + 2 := by unfold expL; split <;> simp
 rw [← size_data, h1, List.length_append, List.length_append]
 omega
theorem shows_round {L : List Int} {i x : Nat} {r : Bool} (hi2 : i < 2) (hil : i < L.length) (hi : rd L (i : Int) = (x : Int)) (hx : x < 9223372036854775808) (hnext : Ev (fun k => laws_FnShows.l0 k L ((i + 1 : Nat) : Int)) r) : Ev (fun k => laws_FnShows.l0 k L (i : Int)) r := by
 have hx2 : x < 18446744073709551616 := by omega
 have hj : ∀ (t : ByteArray) (c : Int), c ≠ 4 → Ev (fun k => laws_FnShows.j1 k L (i : Int) (x : Int) t c false) r := by
  intro t c hc
  refine Ev.step (fun k => shows_eq_j1 k ..) (ev_else (by decide) (ev_else hc ?_))
  rw [w64s zo]
  exact hnext
 have hsame : ∀ {d : Ieee.Datum}, Ieee.double.read x = d → partsR d = partsN x := fun hr => ev_same (parts_is hx2 hr) (spec_parts x hx2)
 have hip : ∀ {d : Ieee.Datum}, Ieee.double.read x = d → Ev (fun k => impl_PartsOfNumber.f k (x : Int)) (partsR d) := fun hr => by
  have hp := impl_parts x hx2
  rw [← hsame hr] at hp
  exact hp
 cases hr : Ieee.double.read x with
 | nan s f =>
  have h1 := impl_show_k (hip hr) (.inl rfl)
  refine shows_kind hi2 hil hi h1 (parts_is hx2 hr) (read_none (b := 78) (r := [97, 78]) rfl (fun h => absurd h.2 (by decide)) (by show 3 ≤ 1000; omega)) (.inl ⟨rfl, ?_⟩) (hj _ _ (by show (1 : Int) ≠ 4; decide))
  rw [ByteArray.toList_eq]; rfl
 | infinity s =>
  have h1 := impl_show_k (hip hr) (.inr (.inl rfl))
  have hs : s = false := by
   have h := hsame hr
   unfold partsN at h
   rw [decide_eq_false (show ¬ 9223372036854775808 ≤ x by omega)] at h
   cases s with
   | false => rfl
   | true =>
    exfalso
    have h2 := congrArg (fun p : Int × Bool × Int × Int => p.2.1) h
    simp only [partsR] at h2
    repeat' split at h2
    all_goals cases h2
  subst hs
  refine shows_kind hi2 hil hi h1 (parts_is hx2 hr) (read_none (b := 73) (r := [110, 102, 105, 110, 105, 116, 121]) ?_ (fun h => absurd h.2 (by decide)) (by show (minusT false ++ (⟨#[73, 110, 102, 105, 110, 105, 116, 121]⟩ : ByteArray)).size ≤ 1000; rw [ByteArray.size_append]; exact (by decide : 0 + 8 ≤ 1000))) (.inr (.inl ⟨rfl, ?_⟩)) (hj _ _ (by show (2 : Int) ≠ 4; decide))
  ·show (minusT false ++ (⟨#[73, 110, 102, 105, 110, 105, 116, 121]⟩ : ByteArray)).data.toList = _
   rw [append_data]; rfl
  ·rw [ByteArray.toList_eq]
   show (minusT false ++ (⟨#[73, 110, 102, 105, 110, 105, 116, 121]⟩ : ByteArray)).data.toList = _
   rw [append_data]; rfl
 | number s M e =>
  by_cases hM : M = 0
  ·subst hM
   have h1 := impl_show_k (hip hr) (.inr (.inr rfl))
   have hx0 : x = 0 := by
    have h := congrArg (fun p : Int × Bool × Int × Int => p.1) (hsame hr)
    unfold partsN at h
    simp only [partsR] at h
    repeat' split at h
    all_goals first | omega | exact absurd trivial ‹¬True›
   subst hx0
   exact shows_kind hi2 hil hi h1 (parts_is hx2 hr) read_zero (.inr (.inr ⟨.inl rfl, rfl⟩)) (hj _ _ (by show (3 : Int) ≠ 4; decide))
  ·obtain ⟨rfl, hrn⟩ := read_neg hx hr
   have hb := best_of hx2 hr hM
   rw [Nat.mod_eq_of_lt hx] at hb
   have h1 := impl_show hx2 hr hM
   have h2 := impl_show (x := x + 9223372036854775808) zo hrn hM
   obtain ⟨V, E, D1, D2, D3, sg, ht, hV, hR, hV60, hE1, hE2⟩ := show_told hb
   have h3 := read_told ht
   have hw : G.nearW (decN V) E = x := by
    have g := G.nearW_good (nearOk_decN hV hV60 hE1 hE2)
    rw [valD_decN] at g
    exact nearE_one g hR
   rw [hw] at h3
   have hsz := show_size hb
   rw [show_minus] at h2
   have hneg := spec_neg_nat x hx2
   have hnm : negM x = x + 9223372036854775808 := by
    have h4 := (read_pos hx2 hr hM).2.1
    rw [Nat.mod_eq_of_lt hx] at h4
    unfold negM nanB
    rw [decide_eq_false zo, if_neg (by decide)]
    unfold CN.negT
    rw [if_neg zo]
   rw [hnm] at hneg
   refine shows_kind hi2 hil hi h1 (parts_some hx2 hr hM) h3 (.inr (.inr ⟨.inr rfl, rfl⟩)) ?_
   refine Ev.step (fun k => shows_eq_j1 k ..) (ev_else (by decide) (ev_if rfl (Ev.bind hneg (Ev.bind h2 (ev_if zo (ev_if rfl ?_))))))
   rw [w64s zo]
   exact hnext
end
theorem FnShows : laws_FnShows.Pure := by
 intro l hl1 hl2 _
 unfold laws_FnShows.f laws_big.f
 simp only [Option.bind_some]
 by_cases hb : (l.length : Int) > 1048576
 ·exact ⟨0, by rw [if_pos (by simpa using hb)]⟩
 obtain ⟨a, b, c, hd, ha, hb2, _⟩ := spec_numbers l zo
 have hma : Int.tmod (a : Int) 9223372036854775808 = ((a % 9223372036854775808 : Nat) : Int) := by rw [tmodN zo]; omega
 have hmb : Int.tmod (b : Int) 9223372036854775808 = ((b % 9223372036854775808 : Nat) : Int) := by rw [tmodN zo]; omega
 refine Ev.rounds (ev_else (by simpa using hb) (Ev.bind hd ?_))
 simp only [hma, hmb]
 have hx : a % 9223372036854775808 < 9223372036854775808 := Nat.mod_lt _ zo
 have hy : b % 9223372036854775808 < 9223372036854775808 := Nat.mod_lt _ zo
 generalize a % 9223372036854775808 = x at hx
 generalize b % 9223372036854775808 = y at hy
 have h2 : Ev (fun k => laws_FnShows.l0 k [(x : Int), (y : Int)] ((1 + 1 : Nat) : Int)) true := Ev.step (fun k => shows_eq_l0 k ..) (ev_else (by decide) (Ev.now _))
 have h1 := shows_round (i := 1) zo (by simp) rfl hy h2
 exact shows_round (i := 0) zo (by simp) rfl hx h1
end Go.Proofs.YtkjpelgdppmbjaaGreatDoor.Pure
