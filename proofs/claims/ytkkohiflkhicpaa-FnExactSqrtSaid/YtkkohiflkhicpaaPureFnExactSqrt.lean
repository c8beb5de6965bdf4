/- At every number the program's Sqrt and the reference's tell the same. No condition but the statement's own. -/
import Derived.Test.YtkkohiflkhicpaaMFnExactSqrtx4
import Derived.Test.YtkkohiflkhicpaaCH
namespace Go.Proofs.Ytkkohiflkhicpaa.Pure
open Go.RowKit Go.Proofs.Ytkkohiflkhicpaa.MFnExactSqrt Go.Proofs.YtkkohiflkhicpaaW.PrintWords Go.Proofs.YtkkohiflkhicpaaW.PrintLast Go.Proofs.Ytkkohiflkhicpaa.CB
theorem inU_nat (a : Nat) (h : a < 18446744073709551616) : Go.Proofs.Ytkkohiflkhicpaa.G.inU64 (a : Int) = true := by
  unfold Go.Proofs.Ytkkohiflkhicpaa.G.inU64
  rw [decide_eq_true (by omega), decide_eq_true (by omega)]; rfl
section
open Go.Proofs.Ytkkohiflkhicpaa.CR Go.Proofs.Ytkkohiflkhicpaa.CF Go.Proofs.Ytkkohiflkhicpaa.CG Go.Proofs.Ytkkohiflkhicpaa.CH
theorem impl_Sqrt_eq (a : Nat) (ha : a < 18446744073709551616) : impl_Sqrt.f (a : Int) = some ((sqrtT a : Nat) : Int) := by
  unfold impl_Sqrt.f Go.Proofs.Ytkkohiflkhicpaa.G.impl_Sqrt
  rw [if_pos (inU_nat a ha), Int.toNat_natCast]
end
theorem spec_pow_l0 (n : Nat) (hn : n ≤ 63) : ∀ (d i : Nat), n - i = d → i ≤ n → Ev (fun k => spec_l03Pow.l0 k (n : Int) ((2 ^ i : Nat) : Int) (i : Int)) ((2 ^ n : Nat) : Int) := by
  intro d
  induction d with
  | zero =>
    intro i hd hi
    obtain rfl : i = n := by omega
    exact Ev.step (f := fun _ => some ((2 ^ i : Nat) : Int)) (fun k => by simp only [spec_l03Pow.l0]; rw [if_neg (by omega)]) (Ev.now _)
  | succ d ih =>
    intro i hd hi
    refine Ev.step (fun k => ?_) (ih (i + 1) (by omega) (by omega))
    simp only [spec_l03Pow.l0]
    have hp : 2 ^ (i + 1) ≤ 2 ^ 63 := Nat.pow_le_pow_right (by omega) (by omega)
    rw [if_pos (by omega), wu64, w64 (by omega) (by omega)]
    rw [Nat.pow_succ] at hp
    rw [show ((2 ^ i : Nat) : Int) * 2 % 18446744073709551616 = ((2 ^ (i + 1) : Nat) : Int) by rw [Nat.pow_succ]; omega]
    rfl
theorem spec_pow (n : Nat) (hn : n ≤ 63) : Ev (fun k => spec_l03Pow.f k (n : Int)) ((2 ^ n : Nat) : Int) := by
  unfold spec_l03Pow.f; exact spec_pow_l0 n hn n 0 (by omega) (by omega)
theorem spec_pow63 : Ev (fun k => spec_l03Pow.f k 63) 9223372036854775808 := spec_pow 63 (by omega)
/-- The parts of a number: kind, below, mantissa, exponent. -/
def partsN (x : Nat) : Int × Bool × Int × Int :=
  if 9218868437227405312 < x % 9223372036854775808 then (1, false, 0, 0)
  else if x % 9223372036854775808 = 9218868437227405312 then (2, decide (9223372036854775808 ≤ x), 0, 0)
  else if x % 9223372036854775808 = 0 then (3, decide (9223372036854775808 ≤ x), 0, 0)
  else if x % 9223372036854775808 < 4503599627370496 then (4, decide (9223372036854775808 ≤ x), ((x % 4503599627370496 : Nat) : Int), -1074)
  else (4, decide (9223372036854775808 ≤ x), ((x % 4503599627370496 + 4503599627370496 : Nat) : Int), ((x / 4503599627370496 % 2048 : Nat) : Int) - 1075)
def nanB (x : Nat) : Bool := decide (9218868437227405312 < x % 9223372036854775808)
theorem partsN_kind (x : Nat) : ((partsN x).1 == 1) = nanB x := by
  unfold partsN nanB
  split
  · rename_i h; simp [h]
  · rename_i h; rw [decide_eq_false h]; split
    · rfl
    · split
      · rfl
      · split <;> rfl
/-- The parts of a finite number. -/
theorem parts_fin (x : Nat) (_hx : x < 18446744073709551616) (h : (partsN x).1 = 4) : ∃ (b : Bool) (m : Nat) (e : Int), partsN x = (4, b, (m : Int), e) ∧ m ≠ 0 ∧ m < 9007199254740992 ∧ -1074 ≤ e ∧ e ≤ 971 ∧ (e ≠ -1074 → 4503599627370496 ≤ m) := by
  revert h
  unfold partsN
  split
  · intro h; exact absurd (show (1 : Int) = 4 from h) (by decide)
  · split
    · intro h; exact absurd (show (2 : Int) = 4 from h) (by decide)
    · split
      · intro h; exact absurd (show (3 : Int) = 4 from h) (by decide)
      · split
        · intro _; exact ⟨_, _, _, rfl, by omega, by omega, by omega, by omega, fun h => absurd rfl h⟩
        · intro _; exact ⟨_, _, _, rfl, by omega, by omega, by omega, by omega, fun _ => by omega⟩
theorem spec_parts_j1 (k : Nat) (e f : Int) (b z : Bool) : spec_PartsOfNumber.j1 (k + 1) e f z 0 b 0 0 = if z = true then some (3, b, 0, 0) else if e = 0 then some (4, b, f, (-1074)) else some (4, b, IntKind.u64.wrap (f + 4503599627370496), wrap64 (e - 1075)) := rfl
theorem spec_parts_j0 (k : Nat) (e f : Int) (b z : Bool) : spec_PartsOfNumber.j0 (k + 1) e f z 0 b 0 0 = if z = true then some (1, false, 0, 0) else if e = 2047 then some (2, b, 0, 0) else if e = 0 then spec_PartsOfNumber.j1 k e f (f == 0) 0 b 0 0 else spec_PartsOfNumber.j1 k e f false 0 b 0 0 := rfl
theorem spec_parts (x : Nat) (hx : x < 18446744073709551616) : Ev (fun k => spec_PartsOfNumber.f k (x : Int)) (partsN x) := by
  unfold spec_PartsOfNumber.f
  refine Ev.bind spec_pow63 ?_
  simp only [if_neg (show ¬ (9223372036854775808 : Int) = 0 by omega)]
  have e1 : wrap64 (Int.tmod (IntKind.u64.wrap (Int.tdiv (x : Int) 4503599627370496)) 2048) = ((x / 4503599627370496 % 2048 : Nat) : Int) := by
    rw [wu64, tdivN (Int.natCast_nonneg x), tmodN (by omega), w64 (by omega) (by omega)]; omega
  have e2 : Int.tmod (x : Int) 4503599627370496 = ((x % 4503599627370496 : Nat) : Int) := by rw [tmodN (Int.natCast_nonneg x)]; omega
  have e3 : ((IntKind.u64.wrap (Int.tdiv (x : Int) 9223372036854775808)) == 1) = decide (9223372036854775808 ≤ x) := by
    rw [wu64, tdivN (Int.natCast_nonneg x), Bool.eq_iff_iff]; simp; omega
  rw [e1, e2, e3]
  generalize hb : decide (9223372036854775808 ≤ x) = b
  have hp : partsN x = if 9218868437227405312 < x % 9223372036854775808 then (1, false, 0, 0)
    else if x % 9223372036854775808 = 9218868437227405312 then (2, b, 0, 0)
    else if x % 9223372036854775808 = 0 then (3, b, 0, 0)
    else if x % 9223372036854775808 < 4503599627370496 then (4, b, ((x % 4503599627370496 : Nat) : Int), -1074)
    else (4, b, ((x % 4503599627370496 + 4503599627370496 : Nat) : Int), ((x / 4503599627370496 % 2048 : Nat) : Int) - 1075) := by unfold partsN; rw [hb]
  rw [hp]
  by_cases h1 : x / 4503599627370496 % 2048 = 2047
  · simp only [if_pos (show ((x / 4503599627370496 % 2048 : Nat) : Int) = 2047 by omega)]
    by_cases h2 : x % 4503599627370496 = 0
    · rw [if_neg (by omega), if_pos (by omega)]
      exact Ev.step (f := fun _ => some (2, b, 0, 0)) (fun k => by rw [spec_parts_j0, if_neg (by simp [h2]), if_pos (by omega)]) (Ev.now _)
    · rw [if_pos (by omega)]
      exact Ev.step (f := fun _ => some (1, false, 0, 0)) (fun k => by rw [spec_parts_j0, if_pos (by simp; omega)]) (Ev.now _)
  · simp only [if_neg (show ¬ ((x / 4503599627370496 % 2048 : Nat) : Int) = 2047 by omega)]
    rw [if_neg (by omega), if_neg (by omega)]
    by_cases h2 : x / 4503599627370496 % 2048 = 0
    · refine Ev.step (f := fun k => spec_PartsOfNumber.j1 k ((x / 4503599627370496 % 2048 : Nat) : Int) ((x % 4503599627370496 : Nat) : Int) (((x % 4503599627370496 : Nat) : Int) == 0) 0 b 0 0) (fun k => by rw [spec_parts_j0, if_neg (by simp), if_neg (by omega), if_pos (by omega)]) ?_
      by_cases h3 : x % 4503599627370496 = 0
      · rw [if_pos (by omega)]
        exact Ev.step (f := fun _ => some (3, b, 0, 0)) (fun k => by rw [spec_parts_j1, if_pos (by simp [h3])]) (Ev.now _)
      · rw [if_neg (by omega), if_pos (by omega)]
        exact Ev.step (f := fun _ => some (4, b, ((x % 4503599627370496 : Nat) : Int), -1074)) (fun k => by rw [spec_parts_j1, if_neg (by simp; omega), if_pos (by omega)]) (Ev.now _)
    · refine Ev.step (f := fun k => spec_PartsOfNumber.j1 k ((x / 4503599627370496 % 2048 : Nat) : Int) ((x % 4503599627370496 : Nat) : Int) false 0 b 0 0) (fun k => by rw [spec_parts_j0, if_neg (by simp), if_neg (by omega), if_neg (by omega)]) ?_
      rw [if_neg (by omega), if_neg (by omega)]
      refine Ev.step (f := fun _ => some (4, b, ((x % 4503599627370496 + 4503599627370496 : Nat) : Int), ((x / 4503599627370496 % 2048 : Nat) : Int) - 1075)) (fun k => ?_) (Ev.now _)
      rw [spec_parts_j1, if_neg (by simp), if_neg (by omega), wu64, w64 (by omega) (by omega), show (((x % 4503599627370496 : Nat) : Int) + 4503599627370496) % 18446744073709551616 = ((x % 4503599627370496 + 4503599627370496 : Nat) : Int) by omega]
/-- A number's parts by what it stands for. -/
def partsR (d : Ieee.Datum) : Int × Bool × Int × Int := match d with | .nan _ _ => (1, false, 0, 0) | .infinity b => (2, b, 0, 0) | .number b m e => if m = 0 then (3, b, 0, 0) else (4, b, (m : Int), e)
open Go.Proofs.Ytkkohiflkhicpaa.CG in
theorem parts_read (x : Nat) (hx : x < 18446744073709551616) : partsN x = partsR (Ieee.double.read x) := by
  rw [read_def x hx]
  unfold partsN sgn
  by_cases h1 : 9218868437227405312 < x % 9223372036854775808
  · rw [if_pos h1, if_neg (by omega), if_neg (by omega), if_neg (by omega)]; rfl
  · rw [if_neg h1]
    by_cases h2 : x % 9223372036854775808 = 9218868437227405312
    · rw [if_pos h2, if_neg (by omega), if_neg (by omega), if_pos h2]; rfl
    · rw [if_neg h2]
      by_cases h3 : x % 9223372036854775808 = 0
      · rw [if_pos h3, if_pos (by omega), h3]; rfl
      · rw [if_neg h3]
        by_cases h4 : x % 9223372036854775808 < 4503599627370496
        · rw [if_pos h4, if_pos h4]
          unfold partsR
          simp only [if_neg h3]
          rw [show x % 9223372036854775808 = x % 4503599627370496 by omega]
        · rw [if_neg h4, if_neg h4, if_pos (by omega)]
          unfold partsR
          simp only [if_neg (show ¬ 4503599627370496 + x % 4503599627370496 = 0 by omega)]
          rw [Nat.add_comm 4503599627370496]
theorem parts_is {x : Nat} {d : Ieee.Datum} (hx : x < 18446744073709551616) (h : Ieee.double.read x = d) : Ev (fun k => spec_PartsOfNumber.f k (x : Int)) (partsR d) := by
  have := spec_parts x hx
  rw [parts_read x hx, h] at this
  exact this
theorem parts_zero {x : Nat} {s : Bool} {i : Int} (hx : x < 18446744073709551616) (h : Ieee.double.read x = .number s 0 i) : Ev (fun k => spec_PartsOfNumber.f k (x : Int)) (3, s, 0, 0) := parts_is hx h
theorem parts_some {x m : Nat} {s : Bool} {i : Int} (hx : x < 18446744073709551616) (h : Ieee.double.read x = .number s m i) (hm : m ≠ 0) : Ev (fun k => spec_PartsOfNumber.f k (x : Int)) (4, s, (m : Int), i) := by
  have := parts_is hx h
  unfold partsR at this
  simp only [if_neg hm] at this
  exact this
theorem parts_inf {x : Nat} {s : Bool} (hx : x < 18446744073709551616) (h : Ieee.double.read x = .infinity s) : Ev (fun k => spec_PartsOfNumber.f k (x : Int)) (2, s, 0, 0) := parts_is hx h
theorem parts_nan {x f : Nat} {s : Bool} (hx : x < 18446744073709551616) (h : Ieee.double.read x = .nan s f) : Ev (fun k => spec_PartsOfNumber.f k (x : Int)) (1, false, 0, 0) := parts_is hx h
/-- The exponent within its bounds. -/
def clampE (E : Int) : Int := max (-5000) (min E 5000)
open Go.Proofs.Ytkkohiflkhicpaa.CR in
/-- What RoundTo tells. -/
def roundT (b : Bool) (M : Nat) (E : Int) (more : Bool) : Nat := if M = 0 then enc b 0 else nearS b M (clampE E) (more && decide (72057594037927936 ≤ M))
open Go.Proofs.Ytkkohiflkhicpaa.CR in
theorem spec_sign (r : Nat) (b : Bool) (hr : r < 9223372036854775808) : Ev (fun k => spec_l03Sign.f k (r : Int) b) ((enc b r : Nat) : Int) := by
  unfold spec_l03Sign.f
  cases b
  · exact Ev.now _
  · simp only [if_true]
    refine Ev.bind spec_pow63 ?_
    rw [wu64, show ((r : Int) + 9223372036854775808) % 18446744073709551616 = ((enc true r : Nat) : Int) by unfold enc; rw [if_pos rfl]; omega]
    exact Ev.now _
open Go.Proofs.Ytkkohiflkhicpaa.CR in
theorem spec_pack_j9 (b : Bool) (last : Int) (m : Nat) (h0 : -1074 ≤ last) (h1 : last ≤ 10000) (hm : m < 9007199254740992) (hn : last ≠ -1074 → 4503599627370496 ≤ m) :
    Ev (fun k => spec_RoundTo.j9 k b (m : Int) last) ((packN b last m : Nat) : Int) := by
  have hj : ∀ (k : Nat) (x1 x2 : Int), spec_RoundTo.j9 (k + 1) b x1 x2 = if x1 < 4503599627370496 then ((spec_l03Sign.f k x1 b).bind fun t104 => (some t104)) else (if x2 > 971 then ((spec_l03Sign.f k 9218868437227405312 b).bind fun t105 => (some t105)) else ((spec_l03Sign.f k (IntKind.u64.wrap ((IntKind.u64.wrap (x1 - 4503599627370496)) + (IntKind.u64.wrap ((IntKind.u64.wrap (wrap64 (x2 + 1075))) * 4503599627370496)))) b).bind fun t106 => (some t106))) := fun _ _ _ => rfl
  by_cases h3 : m < 4503599627370496
  · have hl : last = -1074 := by
      rcases Int.lt_or_eq_of_le h0 with h | h
      · have := hn (by omega); omega
      · exact h.symm
    subst hl
    have e : packN b (-1074) m = enc b m := by
      unfold packN
      rw [Nat.min_eq_left (by omega), show (-1074 + 1074 : Int).toNat * 4503599627370496 + m = m by omega]
    rw [e]
    exact Ev.step (fun k => by rw [hj, if_pos (by omega)]) (Ev.bind (spec_sign m b (by omega)) (Ev.now _))
  · by_cases h2 : last > 971
    · have e : packN b last m = enc b 9218868437227405312 := by
        unfold packN
        rw [Nat.min_eq_right (by omega)]
      rw [e]
      have hs : Ev (fun k => spec_l03Sign.f k 9218868437227405312 b) ((enc b 9218868437227405312 : Nat) : Int) := spec_sign 9218868437227405312 b (by omega)
      exact Ev.step (fun k => by rw [hj, if_neg (by omega), if_pos h2]) (Ev.bind hs (Ev.now _))
    · have e : packN b last m = enc b (m - 4503599627370496 + (last + 1075).toNat * 4503599627370496) := by
        unfold packN
        rw [Nat.min_eq_left (by omega)]
        exact congrArg (enc b) (by omega)
      rw [e]
      refine Ev.step (fun k => ?_) (Ev.bind (spec_sign (m - 4503599627370496 + (last + 1075).toNat * 4503599627370496) b (by omega)) (Ev.now _))
      rw [hj, if_neg (by omega), if_neg h2, w64 (x := last + 1075) (by omega) (by omega), wu64, wu64, wu64, wu64,
        show (((m : Int) - 4503599627370496) % 18446744073709551616 + (last + 1075) % 18446744073709551616 * 4503599627370496 % 18446744073709551616) % 18446744073709551616 = ((m - 4503599627370496 + (last + 1075).toNat * 4503599627370496 : Nat) : Int) by omega]
open Go.Proofs.Ytkkohiflkhicpaa.CR in
theorem spec_pack_j8 (b : Bool) (last : Int) (m : Nat) (h0 : -1074 ≤ last) (h1 : last ≤ 9000) (hm : m ≤ 9007199254740992) (hn : last ≠ -1074 → 4503599627370496 ≤ m) :
    Ev (fun k => spec_RoundTo.j8 k b (m : Int) last) ((packN b last m : Nat) : Int) := by
  have hj : ∀ (k : Nat) (x1 x2 : Int), spec_RoundTo.j8 (k + 1) b x1 x2 = if x1 = 9007199254740992 then (spec_RoundTo.j9 k b 4503599627370496 (wrap64 (x2 + 1))) else (spec_RoundTo.j9 k b x1 x2) := fun _ _ _ => rfl
  by_cases h2 : m = 9007199254740992
  · subst h2
    have e : packN b last 9007199254740992 = packN b (last + 1) 4503599627370496 := by
      unfold packN
      rw [show (last + 1074).toNat * 4503599627370496 + 9007199254740992 = (last + 1 + 1074).toNat * 4503599627370496 + 4503599627370496 by omega]
    rw [e]
    refine Ev.step (fun k => ?_) (spec_pack_j9 b (last + 1) 4503599627370496 (by omega) (by omega) (by omega) (fun _ => by omega))
    rw [hj, if_pos (by omega), w64 (by omega) (by omega)]
    rfl
  · exact Ev.step (fun k => by rw [hj, if_neg (by omega)]) (spec_pack_j9 b last m h0 (by omega) (by omega) hn)
open Go.Proofs.Ytkkohiflkhicpaa.CR in
theorem spec_pack_j7 (b : Bool) (last : Int) (m : Nat) (z : Bool) (h0 : -1074 ≤ last) (h1 : last ≤ 9000) (hm : m + z.toNat ≤ 9007199254740992) (hn : last ≠ -1074 → 4503599627370496 ≤ m) :
    Ev (fun k => spec_RoundTo.j7 k b (m : Int) last z) ((packN b last (m + z.toNat) : Nat) : Int) := by
  have hj : ∀ (k : Nat) (x1 x2 : Int) (z : Bool), spec_RoundTo.j7 (k + 1) b x1 x2 z = if z = true then (spec_RoundTo.j8 k b (IntKind.u64.wrap (x1 + 1)) x2) else (spec_RoundTo.j8 k b x1 x2) := fun _ _ _ _ => rfl
  cases z
  · exact Ev.step (fun k => by rw [hj, if_neg (by simp)]) (spec_pack_j8 b last m h0 h1 (by simpa using hm) hn)
  · refine Ev.step (fun k => ?_) (spec_pack_j8 b last (m + 1) h0 h1 (by simpa using hm) (fun h => by have := hn h; omega))
    have hm' : m + 1 ≤ 9007199254740992 := by simpa using hm
    rw [hj, if_pos rfl, wu64, show ((m : Int) + 1) % 18446744073709551616 = ((m + 1 : Nat) : Int) by omega]
/-- The half and the rest of a number, so many bits of which are left out. -/
def halfB (M j : Nat) : Bool := decide (1 ≤ j ∧ M / 2 ^ (j - 1) % 2 = 1)
def restB (st : Bool) (M j : Nat) : Bool := st || decide (1 ≤ j ∧ M % 2 ^ (j - 1) ≠ 0)
open Go.Proofs.Ytkkohiflkhicpaa.CR in
/-- The half and the rest round as they should. -/
theorem round_bits (st : Bool) (M d : Nat) (hst : st = true → 1 ≤ d) : M / 2 ^ d + (halfB M d && (restB st M d || (M / 2 ^ d % 2 == 1))).toNat = if st then rneS M d else rne M d := by
  cases d with
  | zero =>
    have e : halfB M 0 = false := by unfold halfB; exact decide_eq_false (by omega)
    rw [e]
    cases st
    · rw [rne_zero]; simp
    · have := hst rfl; omega
  | succ c =>
    have e2 : (2 : Nat) ^ (c + 1) = 2 * 2 ^ c := by rw [Nat.pow_succ]; omega
    have hmod : M % 2 ^ (c + 1) = M % 2 ^ c + 2 ^ c * (M / 2 ^ c % 2) := Nat.mod_pow_succ
    have hlt : M % 2 ^ c < 2 ^ c := Nat.mod_lt _ (Nat.pow_pos (by omega))
    unfold rneS rne halfB restB
    rw [show c + 1 - 1 = c by omega, hmod, e2]
    generalize M / (2 * 2 ^ c) = q
    have hb : M / 2 ^ c % 2 = 0 ∨ M / 2 ^ c % 2 = 1 := by omega
    generalize M / 2 ^ c % 2 = h at *
    generalize M % 2 ^ c = r at *
    generalize 2 ^ c = p at *
    rcases hb with rfl | rfl
    · rw [Nat.mul_zero, Nat.add_zero]
      have e : decide (1 ≤ c + 1 ∧ 0 = 1) = false := decide_eq_false (by omega)
      rw [e]
      cases st
      · rw [if_neg (by simp), if_neg (by omega)]; rfl
      · rw [if_pos rfl, if_neg (by omega)]; rfl
    · rw [Nat.mul_one]
      have e : decide (1 ≤ c + 1 ∧ 1 = 1) = true := decide_eq_true (by omega)
      rw [e, Bool.true_and]
      cases st
      · rw [if_neg (by simp)]
        by_cases h0 : r = 0
        · subst h0
          have e3 : decide (1 ≤ c + 1 ∧ 0 ≠ 0) = false := decide_eq_false (by omega)
          rw [e3, Bool.false_or, Bool.false_or]
          by_cases h1 : q % 2 = 1
          · rw [if_pos (.inr (by omega)), show (q % 2 == 1) = true by simpa using h1]; rfl
          · rw [if_neg (by omega), show (q % 2 == 1) = false by simpa using h1]; rfl
        · have e3 : decide (1 ≤ c + 1 ∧ r ≠ 0) = true := decide_eq_true (by omega)
          rw [e3, if_pos (.inl (by omega))]; rfl
      · rw [if_pos rfl, if_pos (by omega)]; rfl
theorem half_next (M j : Nat) : halfB M (j + 1) = (M / 2 ^ j % 2 == 1) := by
  unfold halfB
  rw [show j + 1 - 1 = j by omega]
  by_cases h : M / 2 ^ j % 2 = 1
  · rw [decide_eq_true (by omega)]; exact (beq_iff_eq.mpr h).symm
  · rw [decide_eq_false (by omega)]; exact (beq_eq_false_iff_ne.mpr h).symm
theorem rest_next (st : Bool) (M j : Nat) : restB st M (j + 1) = (restB st M j || halfB M j) := by
  unfold restB halfB
  rw [show j + 1 - 1 = j by omega]
  cases st
  · simp only [Bool.false_or]
    cases j with
    | zero => simp [Nat.mod_one]
    | succ c =>
      rw [show c + 1 - 1 = c by omega, Nat.mod_pow_succ]
      have hp : 0 < 2 ^ c := Nat.pow_pos (by omega)
      generalize M % 2 ^ c = r
      have hb : M / 2 ^ c % 2 = 0 ∨ M / 2 ^ c % 2 = 1 := by omega
      generalize M / 2 ^ c % 2 = h at *
      generalize 2 ^ c = p at *
      rcases hb with rfl | rfl
      · rw [Nat.mul_zero, Nat.add_zero]; simp
      · rw [Nat.mul_one]; simp; omega
  · simp
theorem spec_l1_done (k : Nat) (b : Bool) (m : Int) (e : Int) (h r : Bool) (h1 : ¬ m ≥ 9007199254740992) (h2 : -1074 ≤ e) : spec_RoundTo.l1 (k + 2) b m e h r = spec_RoundTo.j7 k b m e (h && (r || (Int.tmod m 2 == 1))) := by
  have hj6 : ∀ (k : Nat), spec_RoundTo.j6 (k + 1) b m e h r false = (if h = true then (if r = true then (spec_RoundTo.j7 k b m e true) else (spec_RoundTo.j7 k b m e ((Int.tmod m 2) == 1))) else (spec_RoundTo.j7 k b m e false)) := fun _ => rfl
  have hl : ∀ (k : Nat), spec_RoundTo.l1 (k + 1) b m e h r = if m ≥ 9007199254740992 then (spec_RoundTo.j6 k b m e h r true) else (spec_RoundTo.j6 k b m e h r (decide (e < (-1074)))) := fun _ => rfl
  rw [hl, if_neg h1, decide_eq_false (by omega), hj6]
  cases h <;> cases r <;> rfl
theorem spec_l1_next (k : Nat) (b : Bool) (m : Nat) (e : Int) (h r : Bool) (hm : m < 18446744073709551616) (he : -30000 ≤ e ∧ e ≤ 30000) (hc : m ≥ 9007199254740992 ∨ e < -1074) :
    spec_RoundTo.l1 (k + 2) b (m : Int) e h r = if m / 2 = 0 ∧ e + 1 < -1074 then spec_RoundTo.l1 k b 0 (-1074) false ((r || h) || (m % 2 == 1)) else spec_RoundTo.l1 k b ((m / 2 : Nat) : Int) (e + 1) (m % 2 == 1) (r || h) := by
  have hj6 : ∀ (k : Nat), spec_RoundTo.j6 (k + 1) b (m : Int) e h r true = if r = true then (if (IntKind.u64.wrap (Int.tdiv (m : Int) 2)) = 0 then (if (wrap64 (e + 1)) < (-1074) then (spec_RoundTo.l1 k b (IntKind.u64.wrap (Int.tdiv (m : Int) 2)) (-1074) false true) else (spec_RoundTo.l1 k b (IntKind.u64.wrap (Int.tdiv (m : Int) 2)) (wrap64 (e + 1)) ((Int.tmod (m : Int) 2) == 1) true)) else (spec_RoundTo.l1 k b (IntKind.u64.wrap (Int.tdiv (m : Int) 2)) (wrap64 (e + 1)) ((Int.tmod (m : Int) 2) == 1) true)) else (if (IntKind.u64.wrap (Int.tdiv (m : Int) 2)) = 0 then (if (wrap64 (e + 1)) < (-1074) then (if h = true then (spec_RoundTo.l1 k b (IntKind.u64.wrap (Int.tdiv (m : Int) 2)) (-1074) false true) else (spec_RoundTo.l1 k b (IntKind.u64.wrap (Int.tdiv (m : Int) 2)) (-1074) false ((Int.tmod (m : Int) 2) == 1))) else (spec_RoundTo.l1 k b (IntKind.u64.wrap (Int.tdiv (m : Int) 2)) (wrap64 (e + 1)) ((Int.tmod (m : Int) 2) == 1) h)) else (spec_RoundTo.l1 k b (IntKind.u64.wrap (Int.tdiv (m : Int) 2)) (wrap64 (e + 1)) ((Int.tmod (m : Int) 2) == 1) h)) := fun _ => rfl
  have hl : ∀ (k : Nat), spec_RoundTo.l1 (k + 1) b (m : Int) e h r = if (m : Int) ≥ 9007199254740992 then (spec_RoundTo.j6 k b (m : Int) e h r true) else (spec_RoundTo.j6 k b (m : Int) e h r (decide (e < (-1074)))) := fun _ => rfl
  have e0 : spec_RoundTo.l1 (k + 2) b (m : Int) e h r = spec_RoundTo.j6 (k + 1) b (m : Int) e h r true := by
    rw [hl]
    by_cases h1 : (m : Int) ≥ 9007199254740992
    · rw [if_pos h1]
    · rw [if_neg h1, decide_eq_true (by omega)]
  have e1 : IntKind.u64.wrap (Int.tdiv (m : Int) 2) = ((m / 2 : Nat) : Int) := by rw [wu64, tdivN (Int.natCast_nonneg m)]; omega
  have e2 : ((Int.tmod (m : Int) 2) == 1) = (m % 2 == 1) := by
    rw [tmodN (Int.natCast_nonneg m), Bool.eq_iff_iff]; simp; omega
  have e3 : wrap64 (e + 1) = e + 1 := w64 (by omega) (by omega)
  rw [e0, hj6, e1, e2, e3]
  clear hj6 hl e0 e1 e2 e3
  by_cases h0 : m / 2 = 0
  · have h0' : ((m / 2 : Nat) : Int) = 0 := by omega
    rw [h0']
    by_cases h1 : e + 1 < -1074
    · simp only [if_pos h1, if_pos (show m / 2 = 0 ∧ e + 1 < -1074 from ⟨h0, h1⟩)]
      cases r <;> cases h <;> rfl
    · simp only [if_neg h1, if_neg (show ¬ (m / 2 = 0 ∧ e + 1 < -1074) from fun hh => h1 hh.2)]
      cases r <;> cases h <;> rfl
  · have h0' : ¬ ((m / 2 : Nat) : Int) = 0 := by omega
    simp only [if_neg h0', if_neg (show ¬ (m / 2 = 0 ∧ e + 1 < -1074) from fun hh => h0 hh.1)]
    cases r <;> cases h <;> rfl
open Go.Proofs.Ytkkohiflkhicpaa.CR in
theorem spec_l1_run (b st : Bool) (M : Nat) (E : Int) (D : Nat) (_h0 : M ≠ 0) (hM : M < 18446744073709551616) (hE : -5000 ≤ E ∧ E ≤ 5000) (hst : st = true → 1 ≤ D) (hD0 : -1074 ≤ E + D) (hD1 : M < 2 ^ (53 + D)) (hD2 : D < 10000) (hD3 : E + D ≤ 9000) (hstep : ∀ j, j < D → 2 ^ (53 + j) ≤ M ∨ E + j < -1074)
    (hn : E + D ≠ -1074 → 4503599627370496 ≤ M / 2 ^ D) :
    ∀ (d j : Nat), D - j = d → j ≤ D → Ev (fun k => spec_RoundTo.l1 k b ((M / 2 ^ j : Nat) : Int) (E + j) (halfB M j) (restB st M j)) ((packN b (E + D) (if st then rneS M D else rne M D) : Nat) : Int) := by
  intro d
  induction d with
  | zero =>
    intro j hd hj
    obtain rfl : j = D := by omega
    have hq : M / 2 ^ j < 9007199254740992 := Nat.div_lt_of_lt_mul (by rw [show (9007199254740992 : Nat) = 2 ^ 53 from rfl, ← Nat.pow_add, Nat.add_comm]; exact hD1)
    have hb := round_bits st M j hst
    rw [← hb]
    refine Ev.step (f := fun k => spec_RoundTo.l1 (k + 1) b ((M / 2 ^ j : Nat) : Int) (E + j) (halfB M j) (restB st M j)) (fun _ => rfl) ?_
    have ht : (Int.tmod ((M / 2 ^ j : Nat) : Int) 2 == 1) = (M / 2 ^ j % 2 == 1) := by
      rw [tmodN (Int.natCast_nonneg _), Bool.eq_iff_iff]
      generalize M / 2 ^ j = q
      simp; omega
    generalize hz : (halfB M j && (restB st M j || (M / 2 ^ j % 2 == 1))) = z
    have hz1 : z.toNat ≤ 1 := by cases z <;> decide
    refine Ev.step (fun k => ?_) (spec_pack_j7 b (E + j) (M / 2 ^ j) z hD0 hD3 (by omega) hn)
    rw [spec_l1_done k b _ _ _ _ (by omega) hD0, ht, hz]
  | succ d ih =>
    intro j hd hj
    have hc := hstep j (by omega)
    have hle : M / 2 ^ j ≤ M := Nat.div_le_self _ _
    have hdiv : M / 2 ^ j / 2 = M / 2 ^ (j + 1) := by rw [Nat.div_div_eq_div_mul, ← Nat.pow_succ]
    have hcond : M / 2 ^ j ≥ 9007199254740992 ∨ E + (j : Int) < -1074 := by
      rcases hc with h | h
      · left
        exact (Nat.le_div_iff_mul_le (Nat.pow_pos (by omega))).2 (by rw [show (9007199254740992 : Nat) = 2 ^ 53 from rfl, ← Nat.pow_add]; exact h)
      · right; exact h
    have hnx : ∀ k, spec_RoundTo.l1 (k + 2) b ((M / 2 ^ j : Nat) : Int) (E + j) (halfB M j) (restB st M j) = if M / 2 ^ j / 2 = 0 ∧ E + j + 1 < -1074 then spec_RoundTo.l1 k b 0 (-1074) false ((restB st M j || halfB M j) || (M / 2 ^ j % 2 == 1)) else spec_RoundTo.l1 k b ((M / 2 ^ j / 2 : Nat) : Int) (E + j + 1) (M / 2 ^ j % 2 == 1) (restB st M j || halfB M j) :=
      fun k => spec_l1_next k b (M / 2 ^ j) (E + j) _ _ (by omega) (by omega) hcond
    refine Ev.step (f := fun k => spec_RoundTo.l1 (k + 1) b ((M / 2 ^ j : Nat) : Int) (E + j) (halfB M j) (restB st M j)) (fun _ => rfl) ?_
    by_cases hz : M / 2 ^ j / 2 = 0 ∧ E + j + 1 < -1074
    · -- nothing is left of it
      have hz1 := hz.1
      rw [hdiv] at hz1
      have hlt : M < 2 ^ (j + 1) := by
        rcases Nat.lt_or_ge M (2 ^ (j + 1)) with h | h
        · exact h
        · have := Nat.div_pos h (Nat.pow_pos (n := j + 1) (show 0 < 2 by omega)); omega
      have hDj : j + 2 ≤ D := by omega
      have hp : 2 ^ (j + 2) ≤ 2 ^ D := Nat.pow_le_pow_right (by omega) hDj
      have hp2 : (2 : Nat) ^ (j + 2) = 2 * 2 ^ (j + 1) := by rw [Nat.pow_succ 2 (j + 1)]; omega
      have hS : rneS M D = 0 := by
        unfold rneS
        generalize 2 ^ D = q at *
        generalize 2 ^ (j + 2) = u at *
        generalize 2 ^ (j + 1) = v at *
        rw [Nat.div_eq_of_lt (show M < q by omega), Nat.mod_eq_of_lt (show M < q by omega), if_neg (by omega)]
      have hR : rne M D = 0 := by
        unfold rne
        generalize 2 ^ D = q at *
        generalize 2 ^ (j + 2) = u at *
        generalize 2 ^ (j + 1) = v at *
        rw [Nat.div_eq_of_lt (show M < q by omega), Nat.mod_eq_of_lt (show M < q by omega), if_neg (by omega)]
      have hz2 : (if st then rneS M D else rne M D) = 0 := by rw [hS, hR]; cases st <;> rfl
      rw [hz2]
      have hq0 : M / 2 ^ D = 0 := Nat.div_eq_of_lt (by
        generalize 2 ^ D = q at *
        generalize 2 ^ (j + 2) = u at *
        generalize 2 ^ (j + 1) = v at *
        omega)
      have hED : E + D = -1074 := by
        rcases Classical.em (E + D = -1074) with h | h
        · exact h
        · have := hn h; omega
      rw [hED]
      refine Ev.step (f := fun k => spec_RoundTo.l1 k b 0 (-1074) false ((restB st M j || halfB M j) || (M / 2 ^ j % 2 == 1))) (fun k => by rw [hnx k, if_pos hz]) ?_
      refine Ev.step (f := fun k => spec_RoundTo.l1 (k + 1) b 0 (-1074) false ((restB st M j || halfB M j) || (M / 2 ^ j % 2 == 1))) (fun _ => rfl) ?_
      exact Ev.step (fun k => by rw [spec_l1_done k b 0 (-1074) false _ (by omega) (by omega), Bool.false_and]; rfl) (spec_pack_j7 b (-1074) 0 false (by omega) (by omega) (by decide) (fun h => absurd rfl h))
    · have h' := ih (j + 1) (by omega) (by omega)
      rw [half_next, rest_next, ← hdiv] at h'
      refine Ev.step (fun k => ?_) h'
      rw [hnx k, if_neg hz]
      rw [show E + (j : Int) + 1 = E + ((j + 1 : Nat) : Int) by omega]
open Go.Proofs.Ytkkohiflkhicpaa.CR in
theorem spec_l0_run (b st : Bool) (M : Nat) (E : Int) (h0 : M ≠ 0) (hM : M < 18446744073709551616) (hE : -5000 ≤ E ∧ E ≤ 5000) (r : Int) :
    ∀ (d i : Nat), (E - lastP M E).toNat - i = d → i ≤ (E - lastP M E).toNat →
    Ev (fun k => spec_RoundTo.l1 k b ((M * 2 ^ (E - lastP M E).toNat : Nat) : Int) (E - (E - lastP M E).toNat) false st) r →
    Ev (fun k => spec_RoundTo.l0 k b ((M * 2 ^ i : Nat) : Int) (E - i) st) r := by
  have hl : ∀ (k : Nat) (x1 x2 : Int), spec_RoundTo.l0 (k + 1) b x1 x2 st = if x1 < 4503599627370496 then (if x2 > (-1074) then (spec_RoundTo.l0 k b (IntKind.u64.wrap (x1 * 2)) (wrap64 (x2 - 1)) st) else (spec_RoundTo.j4 k b x1 x2 st)) else (spec_RoundTo.j4 k b x1 x2 st) := fun _ _ _ => rfl
  have hj4 : ∀ (k : Nat) (x1 x2 : Int), spec_RoundTo.j4 (k + 1) b x1 x2 st = spec_RoundTo.l1 k b x1 x2 false st := fun _ _ _ => rfl
  have hlog := log_le h0
  have hlog2 := lt_log M
  have hlogM : M.log2 < 64 := log_mono hM h0
  intro d
  induction d with
  | zero =>
    intro i hd hi h
    obtain rfl : i = (E - lastP M E).toNat := by omega
    refine Ev.step (f := fun k => spec_RoundTo.j4 k b ((M * 2 ^ (E - lastP M E).toNat : Nat) : Int) (E - (E - lastP M E).toNat) st) (fun k => ?_) (Ev.step (fun k => by rw [hj4]) h)
    rw [hl]
    by_cases h1 : ((M * 2 ^ (E - lastP M E).toNat : Nat) : Int) < 4503599627370496
    · rw [if_pos h1]
      have : ¬ (E - ((E - lastP M E).toNat : Int) > -1074) := by
        intro h2
        have h3 : M * 2 ^ (E - lastP M E).toNat < 2 ^ 52 := by
          have : (2 : Nat) ^ 52 = 4503599627370496 := rfl
          omega
        have h4 : 2 ^ (M.log2 + (E - lastP M E).toNat) ≤ M * 2 ^ (E - lastP M E).toNat := by
          rw [Nat.pow_add]; exact Nat.mul_le_mul_right _ hlog
        have h5 : M.log2 + (E - lastP M E).toNat < 52 := by
          rcases Nat.lt_or_ge (M.log2 + (E - lastP M E).toNat) 52 with h | h
          · exact h
          · have := Nat.pow_le_pow_right (n := 2) (by omega) h
            omega
        clear h1 h3 h4
        unfold lastP at *
        omega
      rw [if_neg this]
    · rw [if_neg h1]
  | succ d ih =>
    intro i hd hi h
    have h' := ih (i + 1) (by omega) (by omega) h
    refine Ev.step (fun k => ?_) h'
    have hlt : M * 2 ^ i < 4503599627370496 := by
      have h3 : M * 2 ^ i < 2 ^ (M.log2 + 1) * 2 ^ i := Nat.mul_lt_mul_of_pos_right hlog2 (Nat.pow_pos (by omega))
      rw [← Nat.pow_add] at h3
      exact Nat.lt_of_lt_of_le h3 (Nat.pow_le_pow_right (n := 2) (by omega) (show M.log2 + 1 + i ≤ 52 by unfold lastP at *; omega))
    have hgt : E - (i : Int) > -1074 := by unfold lastP at *; omega
    have e1 : M * 2 ^ (i + 1) = M * 2 ^ i * 2 := by rw [Nat.pow_succ, Nat.mul_assoc]
    rw [e1]
    generalize M * 2 ^ i = p at *
    rw [hl, if_pos (by omega), if_pos hgt, wu64, w64 (by omega) (by omega), show ((p : Nat) : Int) * 2 % 18446744073709551616 = ((p * 2 : Nat) : Int) by omega, show E - (i : Int) - 1 = E - ((i + 1 : Nat) : Int) by omega]
open Go.Proofs.Ytkkohiflkhicpaa.CR in
theorem spec_round_l0 (b st : Bool) (M : Nat) (E : Int) (h0 : M ≠ 0) (hM : M < 18446744073709551616) (hE : -5000 ≤ E ∧ E ≤ 5000) (hst : st = true → 72057594037927936 ≤ M) :
    Ev (fun k => spec_RoundTo.l0 k b (M : Int) E st) ((nearS b M E st : Nat) : Int) := by
  have hlog := log_le h0
  have hlog2 := lt_log M
  have hlogM : M.log2 < 64 := log_mono hM h0
  have h := spec_l0_run b st M E h0 hM hE ((nearS b M E st : Nat) : Int) (E - lastP M E).toNat 0 (by omega) (by omega)
  rw [Nat.pow_zero, Nat.mul_one, show E - ((0 : Nat) : Int) = E by omega] at h
  refine h ?_
  have hlp : -1074 ≤ lastP M E ∧ lastP M E ≤ 8000 := by unfold lastP; omega
  have hlp2 : E + M.log2 - 52 ≤ lastP M E := by unfold lastP; omega
  have hlp3 : lastP M E = -1074 ∨ lastP M E = E + M.log2 - 52 := by unfold lastP; omega
  have hkr := kept_range M E h0
  by_cases hd : lastP M E > E
  · -- down
    have hres : nearS b M E st = packN b (E + ((lastP M E - E).toNat : Int)) (if st then rneS M (lastP M E - E).toNat else rne M (lastP M E - E).toNat) := by
      rw [show E + ((lastP M E - E).toNat : Int) = lastP M E by omega]
      cases st
      · unfold nearS
        rw [if_neg (by simp), if_neg (by simp), near_down b M E h0 (by omega)]
      · rw [near_st b M E (hst rfl), if_pos rfl]
    rw [hres, show (E - lastP M E).toNat = 0 by omega, Nat.pow_zero, Nat.mul_one, show E - ((0 : Nat) : Int) = E by omega]
    have hrun := spec_l1_run b st M E (lastP M E - E).toNat h0 hM hE (fun _ => by omega) (by omega)
      (Nat.lt_of_lt_of_le hlog2 (Nat.pow_le_pow_right (by omega) (by omega))) (by omega) (by omega)
      (fun j hj => by
        rcases Classical.em (E + j < -1074) with h | h
        · exact .inr h
        · left; exact Nat.le_trans (Nat.pow_le_pow_right (by omega) (by omega)) hlog)
      (fun hne => by
        have hx : lastP M E ≠ -1074 := by omega
        refine (Nat.le_div_iff_mul_le (Nat.pow_pos (by omega))).2 ?_
        rw [show (4503599627370496 : Nat) = 2 ^ 52 from rfl, ← Nat.pow_add]
        exact Nat.le_trans (Nat.pow_le_pow_right (by omega) (by omega)) hlog)
      (lastP M E - E).toNat 0 (by omega) (by omega)
    rw [Nat.pow_zero, Nat.div_one, show E + ((0 : Nat) : Int) = E by omega] at hrun
    have e1 : halfB M 0 = false := by unfold halfB; exact decide_eq_false (by omega)
    have e2 : restB st M 0 = st := by unfold restB; rw [decide_eq_false (by omega), Bool.or_false]
    rw [e1, e2] at hrun
    exact hrun
  · -- up
    have hst2 : st = false := by
      cases st
      · rfl
      · have := lastP_big M E (hst rfl); omega
    subst hst2
    have hres : nearS b M E false = packN b (lastP M E) (M * 2 ^ (E - lastP M E).toNat) := by
      unfold nearS
      rw [if_neg (by simp), near_up b M E h0 (by omega)]
    rw [show (lastP M E - E).toNat = 0 by omega, rne_zero] at hkr
    rw [hres, show E - (((E - lastP M E).toNat : Nat) : Int) = lastP M E by omega]
    generalize hm : M * 2 ^ (E - lastP M E).toNat = m at *
    rcases Nat.lt_or_ge m 9007199254740992 with hmlt | hmge
    · refine Ev.step (f := fun k => spec_RoundTo.l1 (k + 1) b (m : Int) (lastP M E) false false) (fun _ => rfl) ?_
      have hp := spec_pack_j7 b (lastP M E) m false hlp.1 (by omega) (by show m + 0 ≤ _; omega) hkr.2
      exact Ev.step (fun k => by rw [spec_l1_done k b (m : Int) (lastP M E) false false (by omega) hlp.1, Bool.false_and]) hp
    · exfalso
      have h3 : M * 2 ^ (E - lastP M E).toNat < 2 ^ (M.log2 + 1) * 2 ^ (E - lastP M E).toNat := Nat.mul_lt_mul_of_pos_right hlog2 (Nat.pow_pos (by omega))
      rw [← Nat.pow_add] at h3
      have h4 := Nat.pow_le_pow_right (n := 2) (by omega) (show M.log2 + 1 + (E - lastP M E).toNat ≤ 53 by omega)
      have h5 : (2 : Nat) ^ 53 = 9007199254740992 := rfl
      omega
open Go.Proofs.Ytkkohiflkhicpaa.CR in
theorem spec_round (b : Bool) (M : Nat) (hM : M < 18446744073709551616) (E : Int) (more : Bool) :
    Ev (fun k => spec_RoundTo.f k b (M : Int) E more) ((roundT b M E more : Nat) : Int) := by
  have hj0 : ∀ (k : Nat) (x2 : Int), spec_RoundTo.j0 (k + 1) b (M : Int) x2 more = if x2 < (-5000) then (spec_RoundTo.j1 k b (M : Int) (-5000) more) else (spec_RoundTo.j1 k b (M : Int) x2 more) := fun _ _ => rfl
  have hj1 : ∀ (k : Nat) (x2 : Int), spec_RoundTo.j1 (k + 1) b (M : Int) x2 more = if more = true then ((spec_l03Pow.f k 56).bind fun t102 => (spec_RoundTo.j2 k b (M : Int) x2 (decide ((M : Int) ≥ t102)))) else (spec_RoundTo.j2 k b (M : Int) x2 false) := fun _ _ => rfl
  have hj2 : ∀ (k : Nat) (x2 : Int) (z : Bool), spec_RoundTo.j2 (k + 1) b (M : Int) x2 z = if (M : Int) = 0 then ((spec_l03Sign.f k 0 b).bind fun t103 => (some t103)) else (spec_RoundTo.l0 k b (M : Int) x2 z) := fun _ _ _ => rfl
  have hcr : -5000 ≤ clampE E ∧ clampE E ≤ 5000 := by unfold clampE; omega
  have k2 : ∀ z : Bool, z = (more && decide (72057594037927936 ≤ M)) → Ev (fun k => spec_RoundTo.j2 k b (M : Int) (clampE E) z) ((roundT b M E more : Nat) : Int) := by
    intro z hz
    unfold roundT
    by_cases h0 : M = 0
    · rw [if_pos h0]
      have hs : Ev (fun k => spec_l03Sign.f k 0 b) ((enc b 0 : Nat) : Int) := spec_sign 0 b (by omega)
      exact Ev.step (fun k => by rw [hj2, if_pos (by omega)]) (Ev.bind hs (Ev.now _))
    · rw [if_neg h0, ← hz]
      exact Ev.step (fun k => by rw [hj2, if_neg (by omega)]) (spec_round_l0 b z M (clampE E) h0 hM hcr (fun hh => by rw [hz] at hh; simp at hh; exact hh.2))
  have k1 : Ev (fun k => spec_RoundTo.j1 k b (M : Int) (clampE E) more) ((roundT b M E more : Nat) : Int) := by
    cases hm : more
    · rw [hm] at k2 hj1
      exact Ev.step (fun k => by rw [hj1, if_neg (by simp)]) (k2 false (by simp))
    · rw [hm] at k2 hj1
      have hp : Ev (fun k => spec_l03Pow.f k 56) ((2 ^ 56 : Nat) : Int) := spec_pow 56 (by omega)
      refine Ev.step (f := fun k => (spec_l03Pow.f k 56).bind fun t102 => spec_RoundTo.j2 k b (M : Int) (clampE E) (decide ((M : Int) ≥ t102))) (fun k => by rw [hj1, if_pos rfl]) (Ev.bind hp ?_)
      refine k2 _ ?_
      rw [Bool.true_and, decide_eq_decide]
      have : ((2 ^ 56 : Nat) : Int) = 72057594037927936 := rfl
      rw [this]; omega
  unfold spec_RoundTo.f
  by_cases h1 : E > 5000
  · simp only [if_pos h1]
    have : clampE E = 5000 := by unfold clampE; omega
    rw [this] at k1
    exact Ev.step (fun k => by rw [hj0, if_neg (by omega)]) k1
  · simp only [if_neg h1]
    by_cases h2 : E < -5000
    · have : clampE E = -5000 := by unfold clampE; omega
      rw [this] at k1
      exact Ev.step (fun k => by rw [hj0, if_pos h2]) k1
    · have : clampE E = E := by unfold clampE; omega
      rw [this] at k1
      exact Ev.step (fun k => by rw [hj0, if_neg h2]) k1
open Go.Proofs.Ytkkohiflkhicpaa.CR in
theorem round_near (b : Bool) (M : Nat) (E : Int) (st : Bool) (h0 : M ≠ 0) (h1 : -5000 ≤ E) (h2 : E ≤ 5000) (hst : st = true → 72057594037927936 ≤ M) : roundT b M E st = nearS b M E st := by
  unfold roundT
  rw [if_neg h0, show clampE E = E by unfold clampE; omega]
  congr 1
  cases hs : st
  · rfl
  · rw [decide_eq_true (hst hs)]; rfl
open Go.Proofs.Ytkkohiflkhicpaa.CR Go.Proofs.Ytkkohiflkhicpaa.CF in
/-- A rounded number told by its places: what is above the mantissa's places is told by whether there is any. -/
theorem round_form (b : Bool) (M k t : Nat) (E : Int) (ht : t < 2 ^ k) (hM : t ≠ 0 → 72057594037927936 ≤ M) (h0 : M ≠ 0) (h1 : -5000 ≤ E) (h2 : E ≤ 5000) : roundT b M E (decide (t ≠ 0)) = Ieee.double.nearest b (M * 2 ^ k + t) (E - k) := by
  rw [near_form b M k t E ht (fun h => by have := hM h; omega) h0]
  exact round_near b M E _ h0 h1 h2 (fun h => hM (of_decide_eq_true h))
/-- A mantissa brought up to 2^52 at least. -/
theorem spec_up_l0 (c : Int) (b : Bool) (m : Nat) (e : Int) (he : -3000 ≤ e) (he2 : e ≤ 3000) :
    ∀ (d u : Nat), 4503599627370496 ≤ m * 2 ^ u * 2 ^ d → u + d ≤ 52 → m * 2 ^ u < 9007199254740992 → ∃ v : Nat, v ≤ 52 ∧ 4503599627370496 ≤ m * 2 ^ v ∧ m * 2 ^ v < 9007199254740992 ∧ Ev (fun k => spec_l05Up.l0 k c b ((m * 2 ^ u : Nat) : Int) (e - u)) (c, b, ((m * 2 ^ v : Nat) : Int), e - v) := by
  have hl : ∀ K (x f : Int), spec_l05Up.l0 (K + 1) c b x f = if x < 4503599627370496 then (spec_l05Up.l0 K c b (IntKind.u64.wrap (x * 2)) (wrap64 (f - 1))) else (some (c, b, x, f)) := fun _ _ _ => rfl
  intro d
  induction d with
  | zero =>
    intro u h1 h2 h3
    rw [Nat.pow_zero, Nat.mul_one] at h1
    refine ⟨u, by omega, h1, h3, ?_⟩
    exact Ev.step (f := fun _ => some (c, b, ((m * 2 ^ u : Nat) : Int), e - u)) (fun K => by rw [hl, if_neg (by omega)]) (Ev.now _)
  | succ d ih =>
    intro u h1 h2 h3
    by_cases h : m * 2 ^ u < 4503599627370496
    · have e1 : m * 2 ^ (u + 1) = m * 2 ^ u * 2 := by rw [Nat.pow_succ, Nat.mul_assoc]
      obtain ⟨v, q1, q2, q3, q4⟩ := ih (u + 1) (by rw [e1, Nat.mul_assoc]; rw [Nat.pow_succ, Nat.mul_comm (2 ^ d)] at h1; exact h1) (by omega) (by omega)
      refine ⟨v, q1, q2, q3, Ev.step (fun K => ?_) q4⟩
      rw [hl, if_pos (by omega), wu64, w64 (by omega) (by omega), e1, show ((m * 2 ^ u : Nat) : Int) * 2 % 18446744073709551616 = ((m * 2 ^ u * 2 : Nat) : Int) by omega, show e - (u : Int) - 1 = e - ((u + 1 : Nat) : Int) by omega]
    · refine ⟨u, by omega, by omega, h3, ?_⟩
      exact Ev.step (f := fun _ => some (c, b, ((m * 2 ^ u : Nat) : Int), e - u)) (fun K => by rw [hl, if_neg (by omega)]) (Ev.now _)
theorem spec_up (c : Int) (b : Bool) (m : Nat) (e : Int) (hm : m ≠ 0) (hm2 : m < 9007199254740992) (he : -3000 ≤ e) (he2 : e ≤ 3000) : ∃ v : Nat, v ≤ 52 ∧ 4503599627370496 ≤ m * 2 ^ v ∧ m * 2 ^ v < 9007199254740992 ∧ Ev (fun k => spec_l05Up.f k c b (m : Int) e) (c, b, ((m * 2 ^ v : Nat) : Int), e - v) := by
  have e2 : (2 : Nat) ^ 52 = 4503599627370496 := rfl
  have h := spec_up_l0 c b m e he he2 52 0 (by rw [Nat.pow_zero, Nat.mul_one, e2]; have : 1 * 4503599627370496 ≤ m * 4503599627370496 := Nat.mul_le_mul_right _ (by omega); omega) (by omega) (by rw [Nat.pow_zero, Nat.mul_one]; exact hm2)
  rw [Nat.pow_zero, Nat.mul_one, show e - ((0 : Nat) : Int) = e by omega] at h
  exact h
section
open Go.Proofs.Ytkkohiflkhicpaa.CR Go.Proofs.Ytkkohiflkhicpaa.CF Go.Proofs.Ytkkohiflkhicpaa.CG Go.Proofs.Ytkkohiflkhicpaa.CH
/-- The highest k pairs of binary figures of V times 4^31. -/
def topP (V k : Nat) : Nat := V * 4 ^ 31 / 4 ^ (59 - k)
theorem topP_next (V k : Nat) (hk : k < 59) : topP V (k + 1) = 4 * topP V k + topP V (k + 1) % 4 := by
  unfold topP
  have e : (4 : Nat) ^ (59 - k) = 4 ^ (59 - (k + 1)) * 4 := by rw [← Nat.pow_succ]; congr 1; omega
  rw [e, ← Nat.div_div_eq_div_mul]
  generalize V * 4 ^ 31 / 4 ^ (59 - (k + 1)) = a
  omega
theorem topP_high (V k : Nat) (hk : k ≤ 27) : topP V (k + 1) = V / 4 ^ (27 - k) := by
  unfold topP
  rw [show 59 - (k + 1) = (27 - k) + 31 by omega, Nat.pow_add, Nat.mul_div_mul_right _ _ (Nat.pow_pos (by omega))]
theorem topP_low (V k : Nat) (hk : 28 ≤ k) (hk2 : k < 59) : topP V (k + 1) % 4 = 0 := by
  unfold topP
  obtain ⟨c, hc⟩ : ∃ c, 31 = (59 - (k + 1)) + (c + 1) := ⟨k - 28, by omega⟩
  have e : V * 4 ^ 31 = V * 4 ^ c * 4 * 4 ^ (59 - (k + 1)) := by
    conv => lhs; rw [hc]
    rw [Nat.pow_add, Nat.pow_succ]
    generalize (4 : Nat) ^ (59 - (k + 1)) = p
    generalize (4 : Nat) ^ c = q
    rw [Nat.mul_comm p, ← Nat.mul_assoc, ← Nat.mul_assoc]
  rw [e, Nat.mul_div_cancel _ (Nat.pow_pos (by omega))]
  exact Nat.mul_mod_left _ _
theorem topP_zero (V : Nat) (hV : V < 72057594037927936) : topP V 0 = 0 := by
  unfold topP
  refine Nat.div_eq_of_lt ?_
  have e1 : (4 : Nat) ^ (59 - 0) = 4 ^ 28 * 4 ^ 31 := by rw [← Nat.pow_add]
  have e2 : (4 : Nat) ^ 28 = 72057594037927936 := rfl
  rw [e1, e2]
  exact Nat.mul_lt_mul_of_pos_right hV (Nat.pow_pos (by omega))
theorem topP_all (V : Nat) : topP V 59 = V * 4 ^ 31 := by
  unfold topP
  rw [Nat.sub_self, Nat.pow_zero, Nat.div_one]
theorem rt_step_in (r l T two : Nat) (h1 : r * r + l = T) (h2 : l ≤ 2 * r) (h3 : two < 4) (h4 : 4 * r + 1 ≤ 4 * l + two) : (2 * r + 1) * (2 * r + 1) + (4 * l + two - (4 * r + 1)) = 4 * T + two ∧ 4 * l + two - (4 * r + 1) ≤ 2 * (2 * r + 1) := by
  have e : (2 * r + 1) * (2 * r + 1) = 4 * (r * r) + 4 * r + 1 := by
    rw [Nat.add_mul, Nat.mul_add, Nat.one_mul, Nat.mul_one, Nat.mul_mul_mul_comm]; omega
  rw [e]
  generalize r * r = s at *
  omega
theorem rt_step_out (r l T two : Nat) (h1 : r * r + l = T) (h4 : ¬ 4 * r + 1 ≤ 4 * l + two) : (2 * r) * (2 * r) + (4 * l + two) = 4 * T + two ∧ 4 * l + two ≤ 2 * (2 * r) := by
  have e : (2 * r) * (2 * r) = 4 * (r * r) := by rw [Nat.mul_mul_mul_comm]
  rw [e]
  generalize r * r = s at *
  omega
theorem rt_w1 (l two : Nat) (h : l < 2305843009213693952) (h2 : two < 4) : IntKind.u64.wrap ((IntKind.u64.wrap ((l : Int) * 4)) + (two : Int)) = ((4 * l + two : Nat) : Int) := by rw [wu64, wu64]; omega
theorem rt_w2 (r : Nat) (h : r < 1152921504606846976) : IntKind.u64.wrap ((IntKind.u64.wrap ((r : Int) * 4)) + 1) = ((4 * r + 1 : Nat) : Int) := by rw [wu64, wu64]; omega
theorem rt_w3 (r : Nat) (h : r < 1152921504606846976) : IntKind.u64.wrap ((IntKind.u64.wrap ((r : Int) * 2)) + 1) = ((2 * r + 1 : Nat) : Int) := by rw [wu64, wu64]; omega
theorem rt_w4 (r : Nat) (h : r < 1152921504606846976) : IntKind.u64.wrap ((r : Int) * 2) = ((2 * r : Nat) : Int) := by rw [wu64]; omega
theorem dv_w (n : Nat) (h : n < 4611686018427387904) : IntKind.u64.wrap ((n : Int) * 2) = ((n * 2 : Nat) : Int) := by rw [wu64]; omega
theorem tmod_two (z : Int) : Int.tmod z 2 = 0 ↔ z % 2 = 0 := by
  constructor
  · intro h; have := Int.dvd_of_tmod_eq_zero h; omega
  · intro h; exact Int.tmod_eq_zero_of_dvd (by omega)
theorem rt_w5 (a b : Nat) (h : b ≤ a) (h2 : a < 18446744073709551616) : IntKind.u64.wrap ((a : Int) - (b : Int)) = ((a - b : Nat) : Int) := by rw [wu64]; omega
/-- The end of the root. -/
theorem spec_sqrt_l0 (V : Nat) (hV0 : 4503599627370496 ≤ V) (hV : V < 18014398509481984) (E : Int) (hE : -3000 ≤ E) (hE2 : E ≤ 3000) (hT : Int.tdiv E 2 = E / 2) (R : Nat)
    (hR : ∀ w, isRoot (V * 4 ^ 31) w → R = Ieee.double.nearest false (rt (V * 4 ^ 31) w) (Int.tdiv E 2 - 31 - 1)) :
    ∀ (d k r l : Nat), 59 - k = d → k ≤ 59 → r * r + l = topP V k → l ≤ 2 * r → r < 2 ^ k → Ev (fun K => spec_Sqrt.l0 K (V : Int) E (r : Int) (l : Int) (27 - (k : Int))) ((R : Nat) : Int) := by
  intro d
  induction d with
  | zero =>
    intro k r l hd hk h1 h2 h3
    obtain rfl : k = 59 := by omega
    rw [topP_all] at h1
    have e59 : (2 : Nat) ^ 59 = 576460752303423488 := rfl
    have e31 : (4 : Nat) ^ 31 = 4611686018427387904 := rfl
    rw [e59] at h3
    have hroot : isRoot (V * 4 ^ 31) r := by
      refine ⟨by rw [← h1]; exact Nat.le_add_right _ _, ?_⟩
      rw [Nat.add_mul, Nat.mul_add, Nat.mul_one, Nat.one_mul, ← h1]
      generalize r * r = s
      omega
    have hbig : 72057594037927936 ≤ r := by
      rcases Nat.lt_or_ge r 72057594037927936 with h | h
      · exfalso
        have h4 := hroot.2
        have h5 : (r + 1) * (r + 1) ≤ 72057594037927936 * 72057594037927936 := Nat.mul_le_mul h h
        have h6 : 4503599627370496 * 4 ^ 31 ≤ V * 4 ^ 31 := Nat.mul_le_mul_right _ hV0
        have h7 : (72057594037927936 : Nat) * 72057594037927936 < 4503599627370496 * 4 ^ 31 := by decide
        omega
      · exact h
    have hround : roundT false r (Int.tdiv E 2 - 31) (decide ((l : Int) > 0)) = R := by
      have e5 : decide ((l : Int) > 0) = decide (r * r ≠ V * 4 ^ 31) := by
        rw [Bool.eq_iff_iff]
        simp only [decide_eq_true_eq]
        rw [← h1]
        generalize r * r = s
        omega
      have e6 : -3000 ≤ Int.tdiv E 2 ∧ Int.tdiv E 2 ≤ 3000 := by rw [hT]; clear hR h1 hroot; omega
      rw [e5, round_near false r _ _ (by omega) (by omega) (by omega) (fun _ => hbig), hR r hroot]
      unfold rt nearS
      by_cases hq : r * r ≠ V * 4 ^ 31
      · rw [decide_eq_true hq, Bool.toNat_true, if_pos rfl]
      · rw [decide_eq_false hq, Bool.toNat_false, Nat.add_zero, if_neg (by simp)]
        have := near_scale false r 1 (Int.tdiv E 2 - 31) (by omega)
        rw [show r * 2 ^ 1 = 2 * r by omega] at this
        exact this.symm
    rw [← hround]
    refine Ev.step (f := fun K => (spec_RoundTo.f K false (r : Int) (wrap64 ((wrap64 (Int.tdiv E 2)) - 31)) (decide ((l : Int) > 0))).bind fun v => some v) (fun K => ?_) ?_
    · simp only [spec_Sqrt.l0]
      rw [if_neg (by omega)]
    · have e6 : -3000 ≤ Int.tdiv E 2 ∧ Int.tdiv E 2 ≤ 3000 := by omega
      rw [w64 (x := Int.tdiv E 2) (by omega) (by omega), w64 (x := Int.tdiv E 2 - 31) (by omega) (by omega)]
      exact Ev.bind (spec_round false r (by omega) _ _) (Ev.now _)
  | succ d ih =>
    intro k r l hd hk h1 h2 h3
    have hnext := topP_next V k (by omega)
    have hr : r < 576460752303423488 := Nat.lt_of_lt_of_le h3 (Nat.le_trans (Nat.pow_le_pow_right (by omega) (show k ≤ 59 by omega)) (Nat.le_of_eq rfl))
    have hp : (2 : Nat) ^ (k + 1) = 2 * 2 ^ k := by rw [Nat.pow_succ, Nat.mul_comm]
    generalize htwo : topP V (k + 1) % 4 = two at hnext
    have ht4 : two < 4 := by omega
    have i1 : Ev (fun K => spec_Sqrt.l0 K (V : Int) E ((if 4 * r + 1 ≤ 4 * l + two then 2 * r + 1 else 2 * r : Nat) : Int) ((if 4 * r + 1 ≤ 4 * l + two then 4 * l + two - (4 * r + 1) else 4 * l + two : Nat) : Int) (27 - ((k + 1 : Nat) : Int))) ((R : Nat) : Int) := by
      by_cases hc : 4 * r + 1 ≤ 4 * l + two
      · rw [if_pos hc, if_pos hc]
        obtain ⟨q1, q2⟩ := rt_step_in r l _ two h1 h2 ht4 hc
        exact ih (k + 1) _ _ (by omega) (by omega) (by rw [hnext]; exact q1) q2 (by rw [hp]; omega)
      · rw [if_neg hc, if_neg hc]
        obtain ⟨q1, q2⟩ := rt_step_out r l _ two h1 hc
        exact ih (k + 1) _ _ (by omega) (by omega) (by rw [hnext]; exact q1) q2 (by rw [hp]; omega)
    clear ih h1 hR hnext
    have w1 := rt_w1 l two (by omega) ht4
    have w2 := rt_w2 r (by omega)
    have w3 := rt_w3 r (by omega)
    have w4 := rt_w4 r (by omega)
    have ci : (27 - (k : Int)) ≥ -31 := by clear w1 w2 w3 w4; omega
    have w6 : wrap64 (27 - (k : Int) - 1) = 27 - ((k + 1 : Nat) : Int) := by clear w1 w2 w3 w4; rw [w64 (by omega) (by omega)]; omega
    have hbody : ∀ (K : Nat) (z : Int), z = (two : Int) → (if (IntKind.u64.wrap ((IntKind.u64.wrap ((l : Int) * 4)) + z)) ≥ (IntKind.u64.wrap ((IntKind.u64.wrap ((r : Int) * 4)) + 1)) then (spec_Sqrt.l0 K (V : Int) E (IntKind.u64.wrap ((IntKind.u64.wrap ((r : Int) * 2)) + 1)) (IntKind.u64.wrap ((IntKind.u64.wrap ((IntKind.u64.wrap ((l : Int) * 4)) + z)) - (IntKind.u64.wrap ((IntKind.u64.wrap ((r : Int) * 4)) + 1)))) (wrap64 (27 - (k : Int) - 1))) else (spec_Sqrt.l0 K (V : Int) E (IntKind.u64.wrap ((r : Int) * 2)) (IntKind.u64.wrap ((IntKind.u64.wrap ((l : Int) * 4)) + z)) (wrap64 (27 - (k : Int) - 1))))
        = spec_Sqrt.l0 K (V : Int) E ((if 4 * r + 1 ≤ 4 * l + two then 2 * r + 1 else 2 * r : Nat) : Int) ((if 4 * r + 1 ≤ 4 * l + two then 4 * l + two - (4 * r + 1) else 4 * l + two : Nat) : Int) (27 - ((k + 1 : Nat) : Int)) := by
      intro K z hz
      subst hz
      rw [w1, w2, w3, w4, w6]
      clear w1 w2 w3 w4 w6
      by_cases hc : 4 * r + 1 ≤ 4 * l + two
      · rw [if_pos hc, if_pos hc, if_pos (by omega), rt_w5 _ _ hc (by omega)]
      · rw [if_neg hc, if_neg hc, if_neg (by omega)]
    clear w1 w2 w3 w4
    by_cases hk27 : k ≤ 27
    · have hpw : Ev (fun K => spec_l03Pow.f K ((2 * (27 - k) : Nat) : Int)) ((2 ^ (2 * (27 - k)) : Nat) : Int) := spec_pow _ (by omega)
      have hge : (27 - (k : Int)) ≥ 0 := by clear w6 hbody; omega
      have hw7 : wrap64 (2 * (27 - (k : Int))) = ((2 * (27 - k) : Nat) : Int) := by clear w6 hbody; rw [w64 (by omega) (by omega)]; omega
      have hpos : ¬ ((2 ^ (2 * (27 - k)) : Nat) : Int) = 0 := by
        have : 0 < 2 ^ (2 * (27 - k)) := Nat.pow_pos (by omega)
        clear w6 hbody hw7
        omega
      have hz : Int.tmod (IntKind.u64.wrap (Int.tdiv (V : Int) ((2 ^ (2 * (27 - k)) : Nat) : Int))) 4 = (two : Int) := by
        have e4 : (2 : Nat) ^ (2 * (27 - k)) = 4 ^ (27 - k) := by rw [Nat.pow_mul]
        rw [topP_high V k hk27] at htwo
        have hle : V / 4 ^ (27 - k) ≤ V := Nat.div_le_self _ _
        rw [e4, wu64, tdivN (Int.natCast_nonneg _), ← Int.natCast_ediv]
        generalize V / 4 ^ (27 - k) = q at *
        clear w6 hbody hw7 hpos hpw i1
        rw [tmodN (by omega)]
        omega
      refine Ev.step (f := fun K => (spec_l03Pow.f K ((2 * (27 - k) : Nat) : Int)).bind fun t122 => (if t122 = 0 then (none) else (if (IntKind.u64.wrap ((IntKind.u64.wrap ((l : Int) * 4)) + (Int.tmod (IntKind.u64.wrap (Int.tdiv (V : Int) t122)) 4))) ≥ (IntKind.u64.wrap ((IntKind.u64.wrap ((r : Int) * 4)) + 1)) then (spec_Sqrt.l0 K (V : Int) E (IntKind.u64.wrap ((IntKind.u64.wrap ((r : Int) * 2)) + 1)) (IntKind.u64.wrap ((IntKind.u64.wrap ((IntKind.u64.wrap ((l : Int) * 4)) + (Int.tmod (IntKind.u64.wrap (Int.tdiv (V : Int) t122)) 4))) - (IntKind.u64.wrap ((IntKind.u64.wrap ((r : Int) * 4)) + 1)))) (wrap64 (27 - (k : Int) - 1))) else (spec_Sqrt.l0 K (V : Int) E (IntKind.u64.wrap ((r : Int) * 2)) (IntKind.u64.wrap ((IntKind.u64.wrap ((l : Int) * 4)) + (Int.tmod (IntKind.u64.wrap (Int.tdiv (V : Int) t122)) 4))) (wrap64 (27 - (k : Int) - 1)))))) (fun K => ?_) (Ev.bind hpw ?_)
      · simp only [spec_Sqrt.l0]
        rw [if_pos ci, if_pos hge, hw7]
      · refine Ev.congr (fun K => ?_) i1
        rw [if_neg hpos]
        exact hbody K _ hz
    · have hlt : ¬ (27 - (k : Int)) ≥ 0 := by clear w6 hbody; omega
      have ht0 := topP_low V k (by omega) (by omega)
      have htz : two = 0 := by rw [← htwo]; exact ht0
      refine Ev.step (fun K => ?_) i1
      simp only [spec_Sqrt.l0]
      rw [if_pos ci, if_neg hlt]
      exact hbody K 0 (by rw [htz]; rfl)
def sqrtGo (k : Nat) (x : Int) (P : Int × Bool × Int × Int) : Option Int := if P.1 = 3 then (spec_Sqrt.j0 k x true P.1 P.2.1 P.2.2.1 P.2.2.2) else (if P.1 = 2 then (spec_Sqrt.j0 k x (!P.2.1) P.1 P.2.1 P.2.2.1 P.2.2.2) else (spec_Sqrt.j0 k x false P.1 P.2.1 P.2.2.1 P.2.2.2))
theorem spec_Sqrt_go (x : Nat) {P : Int × Bool × Int × Int} {R : Int} (hP : Ev (fun k => spec_PartsOfNumber.f k (x : Int)) P) (h : Ev (fun k => sqrtGo k (x : Int) P) R) : Ev (fun k => spec_Sqrt.f k (x : Int)) R := by
  unfold spec_Sqrt.f; exact Ev.bind hP h
theorem spec_Sqrt_eq (x : Nat) (hx : x < 18446744073709551616) : Ev (fun k => spec_Sqrt.f k (x : Int)) ((sqrtT x : Nat) : Int) := by
  have hnan : sqrtT x = 9221120237041090560 → ((sqrtT x : Nat) : Int) = 9221120237041090560 := by intro h; rw [h]; rfl
  have hs : ∀ a b c d, Ev (fun k => spec_Sqrt.j0 k (x : Int) true a b c d) (x : Int) := fun a b c d => Ev.step (f := fun _ => some (x : Int)) (fun _ => rfl) (Ev.now _)
  have hn : ∀ a b c d, Ev (fun k => spec_Sqrt.j1 k true a b c d) 9221120237041090560 := fun a b c d => Ev.step (f := fun _ => some 9221120237041090560) (fun _ => rfl) (Ev.now _)
  cases hrx : Ieee.double.read x with
  | nan s f =>
    have e : sqrtT x = 9221120237041090560 := by unfold sqrtT Ieee.Format.sqrt; rw [hrx]; rfl
    rw [hnan e]
    exact spec_Sqrt_go x (parts_nan hx hrx) (Ev.step (f := fun k => spec_Sqrt.j1 k true 1 false 0 0) (fun _ => rfl) (hn ..))
  | infinity s =>
    obtain ⟨_, hxe⟩ := read_inf hx hrx
    cases s
    · have e : sqrtT x = x := by
        unfold sqrtT Ieee.Format.sqrt; rw [hrx]
        show Ieee.double.write (.infinity false) = x
        rw [write_inf, ← hxe]
      rw [e]
      exact spec_Sqrt_go x (parts_inf hx hrx) (hs 2 false 0 0)
    · have e : sqrtT x = 9221120237041090560 := by unfold sqrtT Ieee.Format.sqrt; rw [hrx]; rfl
      rw [hnan e]
      exact spec_Sqrt_go x (parts_inf hx hrx) (Ev.step (f := fun k => spec_Sqrt.j1 k true 2 true 0 0) (fun _ => rfl) (hn ..))
  | number s m i =>
    obtain ⟨_, a1, a2, a3, a4, a5, a6⟩ := read_num hx hrx
    have hself := near_read hx hrx
    by_cases h : m = 0
    · subst h
      have e : sqrtT x = x := by
        unfold sqrtT Ieee.Format.sqrt; rw [hrx]
        show Ieee.double.write (.number s 0 i) = x
        exact hself
      rw [e]
      exact spec_Sqrt_go x (parts_zero hx hrx) (hs 3 s 0 0)
    · cases s
      · obtain ⟨u, hu1, hu2, hu3, hu4⟩ := spec_up 4 false m i h a1 (by omega) (by omega)
        refine spec_Sqrt_go x (parts_some hx hrx h) (Ev.step (f := fun k => spec_Sqrt.j1 k false 4 false (m : Int) i) (fun _ => rfl) (Ev.step (f := fun k => (spec_l05Up.f k 4 false (m : Int) i).bind fun bt117 => (if (Int.tmod bt117.2.2.2 2) = 0 then (spec_Sqrt.j2 k bt117.2.2.1 bt117.2.2.2) else (spec_Sqrt.j2 k (IntKind.u64.wrap (bt117.2.2.1 * 2)) (wrap64 (bt117.2.2.2 - 1))))) (fun _ => rfl) (Ev.bind hu4 ?_)))
        have hgo : ∀ (V : Nat) (w : Nat) (E : Int), V = m * 2 ^ w → E = i - w → E % 2 = 0 → 4503599627370496 ≤ V → V < 18014398509481984 → -3000 ≤ E → E ≤ 3000 → Ev (fun k => spec_Sqrt.j2 k (V : Int) E) ((sqrtT x : Nat) : Int) := by
          intro V w E hV hE hev hV1 hV2 hE1 hE2
          refine Ev.step (f := fun k => spec_Sqrt.l0 k (V : Int) E 0 0 27) (fun _ => rfl) ?_
          have hT : Int.tdiv E 2 = E / 2 := by
            rcases Int.le_total 0 E with h | h
            · exact Int.tdiv_eq_ediv_of_nonneg h
            · have h8 : E = -(2 * (-E / 2)) := by omega
              have h9 : Int.tdiv (-(2 * (-E / 2))) 2 = -(-E / 2) := by
                rw [Int.neg_tdiv, Int.mul_tdiv_cancel_left _ (by decide)]
              rw [h8, h9]; omega
          have hl := spec_sqrt_l0 V hV1 hV2 E hE1 hE2 hT (sqrtT x) (by
            intro z hz
            have e4 : V * 4 ^ 31 = m * 2 ^ (w + 62) := by rw [hV, Nat.pow_add, ← Nat.mul_assoc]
            rw [e4] at hz ⊢
            have hbz : 9007199254740992 ≤ z := by
              rcases Nat.lt_or_ge z 9007199254740992 with h | h
              · exfalso
                have h4 := hz.2
                have h5 : (z + 1) * (z + 1) ≤ 9007199254740992 * 9007199254740992 := Nat.mul_le_mul h h
                have h6 : 4503599627370496 * 4 ^ 31 ≤ V * 4 ^ 31 := Nat.mul_le_mul_right _ hV1
                have h7 : (9007199254740992 : Nat) * 9007199254740992 < 4503599627370496 * 4 ^ 31 := by decide
                rw [e4] at h6
                omega
              · exact h
            have hs2 := sqrt_fin hrx h (w + 62) z hz (by omega) hbz
            rw [hs2]
            congr 1
            rw [hT]
            omega) 59 0 0 0 rfl (by omega) (by rw [topP_zero V (by omega)]) (by omega) (by decide)
          exact hl
        by_cases hev : Int.tmod (i - u) 2 = 0
        all_goals have hev2 := hev
        all_goals rw [tmod_two] at hev2
        · refine Ev.congr (f := fun k => spec_Sqrt.j2 k ((m * 2 ^ u : Nat) : Int) (i - u)) (fun K => ?_) (hgo (m * 2 ^ u) u (i - u) rfl rfl (by omega) hu2 (by omega) (by omega) (by omega))
          show (if (Int.tmod (i - u) 2) = 0 then _ else _) = _
          rw [if_pos hev]
        · have ew : wrap64 (i - (u : Int) - 1) = i - ((u + 1 : Nat) : Int) := by rw [w64 (by omega) (by omega)]; omega
          have em : IntKind.u64.wrap (((m * 2 ^ u : Nat) : Int) * 2) = ((m * 2 ^ (u + 1) : Nat) : Int) := by
            rw [Nat.pow_succ, ← Nat.mul_assoc]
            exact dv_w (m * 2 ^ u) (by omega)
          refine Ev.congr (f := fun k => spec_Sqrt.j2 k ((m * 2 ^ (u + 1) : Nat) : Int) (i - ((u + 1 : Nat) : Int))) (fun K => ?_) (hgo (m * 2 ^ (u + 1)) (u + 1) (i - ((u + 1 : Nat) : Int)) rfl rfl (by clear ew em; omega) (by clear ew em; rw [Nat.pow_succ, ← Nat.mul_assoc]; omega) (by clear ew em; rw [Nat.pow_succ, ← Nat.mul_assoc]; omega) (by clear ew em; omega) (by clear ew em; omega))
          show (if (Int.tmod (i - u) 2) = 0 then _ else (spec_Sqrt.j2 K (IntKind.u64.wrap (((m * 2 ^ u : Nat) : Int) * 2)) (wrap64 (i - (u : Int) - 1)))) = _
          rw [if_neg hev, ew, em]
      · have e : sqrtT x = 9221120237041090560 := by
          unfold sqrtT Ieee.Format.sqrt; rw [hrx]
          unfold Ieee.Datum.root
          simp only [if_neg h, if_true]; rfl
        rw [hnan e]
        exact spec_Sqrt_go x (parts_some hx hrx h) (Ev.step (f := fun k => spec_Sqrt.j1 k true 4 true (m : Int) i) (fun _ => rfl) (hn ..))
end
theorem FnExactSqrt : laws_FnExactSqrt.Pure := by
  intro a ha
  obtain ⟨h0, h1⟩ := wfu64 ha
  obtain ⟨a, rfl⟩ : ∃ n : Nat, a = n := ⟨a.toNat, by omega⟩
  unfold laws_FnExactSqrt.f
  refine Ev.rounds (Ev.bind (spec_Sqrt_eq a (by omega)) ?_)
  rw [impl_Sqrt_eq a (by omega)]
  simp only [Option.bind_some, if_true]
  exact Ev.now true
end Go.Proofs.Ytkkohiflkhicpaa.Pure
