/- At every number the program's ToInt32 and the reference's tell the same. No condition but the statement's own. -/
import Derived.Test.YtcnajbnamgohnaaMFnExactToInt32x3
import Derived.Test.YtcnajbnamgohnaaCB
namespace Go.Proofs.Ytcnajbnamgohnaa.Pure
open Go.RowKit Go.Proofs.Ytcnajbnamgohnaa.MFnExactToInt32 Go.Proofs.YtcnajbnamgohnaaW.PrintWords Go.Proofs.YtcnajbnamgohnaaW.PrintLast Go.Proofs.Ytcnajbnamgohnaa.CB
theorem spec_pow_l0 (n : Nat) (hn : n ≤ 63) : ∀ (d i : Nat), n - i = d → i ≤ n → Ev (fun k => spec_l03Pow.l0 k (n : Int) ((2 ^ i : Nat) : Int) (i : Int)) ((2 ^ n : Nat) : Int) := by
  intro d
  induction d with
  | zero =>
    intro i hd hi
    obtain rfl : i = n := by omega
    exact Ev.step (f := fun _ => some ((2 ^ i : Nat) : Int)) (fun k => by simp only [spec_l03Pow.l0]; rw [if_neg (by omega)]) (Ev.now _)
  | succ d ih =>
    intro i hd hi
    refine Ev.step (fun k => ?_) (ih (i + 1) (by omega) (by omega))
    simp only [spec_l03Pow.l0]
    have hp : 2 ^ (i + 1) ≤ 2 ^ 63 := Nat.pow_le_pow_right (by omega) (by omega)
    rw [if_pos (by omega), wu64, w64 (by omega) (by omega)]
    rw [Nat.pow_succ] at hp
    rw [show ((2 ^ i : Nat) : Int) * 2 % 18446744073709551616 = ((2 ^ (i + 1) : Nat) : Int) by rw [Nat.pow_succ]; omega]
    rfl
theorem spec_pow (n : Nat) (hn : n ≤ 63) : Ev (fun k => spec_l03Pow.f k (n : Int)) ((2 ^ n : Nat) : Int) := by
  unfold spec_l03Pow.f; exact spec_pow_l0 n hn n 0 (by omega) (by omega)
theorem spec_pow63 : Ev (fun k => spec_l03Pow.f k 63) 9223372036854775808 := spec_pow 63 (by omega)
/-- The parts of a number: kind, below, mantissa, exponent. -/
def partsN (x : Nat) : Int × Bool × Int × Int :=
  if 9218868437227405312 < x % 9223372036854775808 then (1, false, 0, 0)
  else if x % 9223372036854775808 = 9218868437227405312 then (2, decide (9223372036854775808 ≤ x), 0, 0)
  else if x % 9223372036854775808 = 0 then (3, decide (9223372036854775808 ≤ x), 0, 0)
  else if x % 9223372036854775808 < 4503599627370496 then (4, decide (9223372036854775808 ≤ x), ((x % 4503599627370496 : Nat) : Int), -1074)
  else (4, decide (9223372036854775808 ≤ x), ((x % 4503599627370496 + 4503599627370496 : Nat) : Int), ((x / 4503599627370496 % 2048 : Nat) : Int) - 1075)
def nanB (x : Nat) : Bool := decide (9218868437227405312 < x % 9223372036854775808)
theorem partsN_kind (x : Nat) : ((partsN x).1 == 1) = nanB x := by
  unfold partsN nanB
  split
  · rename_i h; simp [h]
  · rename_i h; rw [decide_eq_false h]; split
    · rfl
    · split
      · rfl
      · split <;> rfl
/-- The parts of a finite number. -/
theorem parts_fin (x : Nat) (_hx : x < 18446744073709551616) (h : (partsN x).1 = 4) : ∃ (b : Bool) (m : Nat) (e : Int), partsN x = (4, b, (m : Int), e) ∧ m ≠ 0 ∧ m < 9007199254740992 ∧ -1074 ≤ e ∧ e ≤ 971 ∧ (e ≠ -1074 → 4503599627370496 ≤ m) := by
  revert h
  unfold partsN
  split
  · intro h; exact absurd (show (1 : Int) = 4 from h) (by decide)
  · split
    · intro h; exact absurd (show (2 : Int) = 4 from h) (by decide)
    · split
      · intro h; exact absurd (show (3 : Int) = 4 from h) (by decide)
      · split
        · intro _; exact ⟨_, _, _, rfl, by omega, by omega, by omega, by omega, fun h => absurd rfl h⟩
        · intro _; exact ⟨_, _, _, rfl, by omega, by omega, by omega, by omega, fun _ => by omega⟩
theorem spec_parts_j1 (k : Nat) (e f : Int) (b z : Bool) : spec_PartsOfNumber.j1 (k + 1) e f z 0 b 0 0 = if z = true then some (3, b, 0, 0) else if e = 0 then some (4, b, f, (-1074)) else some (4, b, IntKind.u64.wrap (f + 4503599627370496), wrap64 (e - 1075)) := rfl
theorem spec_parts_j0 (k : Nat) (e f : Int) (b z : Bool) : spec_PartsOfNumber.j0 (k + 1) e f z 0 b 0 0 = if z = true then some (1, false, 0, 0) else if e = 2047 then some (2, b, 0, 0) else if e = 0 then spec_PartsOfNumber.j1 k e f (f == 0) 0 b 0 0 else spec_PartsOfNumber.j1 k e f false 0 b 0 0 := rfl
theorem spec_parts (x : Nat) (hx : x < 18446744073709551616) : Ev (fun k => spec_PartsOfNumber.f k (x : Int)) (partsN x) := by
  unfold spec_PartsOfNumber.f
  refine Ev.bind spec_pow63 ?_
  simp only [if_neg (show ¬ (9223372036854775808 : Int) = 0 by omega)]
  have e1 : wrap64 (Int.tmod (IntKind.u64.wrap (Int.tdiv (x : Int) 4503599627370496)) 2048) = ((x / 4503599627370496 % 2048 : Nat) : Int) := by
    rw [wu64, tdivN (Int.natCast_nonneg x), tmodN (by omega), w64 (by omega) (by omega)]; omega
  have e2 : Int.tmod (x : Int) 4503599627370496 = ((x % 4503599627370496 : Nat) : Int) := by rw [tmodN (Int.natCast_nonneg x)]; omega
  have e3 : ((IntKind.u64.wrap (Int.tdiv (x : Int) 9223372036854775808)) == 1) = decide (9223372036854775808 ≤ x) := by
    rw [wu64, tdivN (Int.natCast_nonneg x), Bool.eq_iff_iff]; simp; omega
  rw [e1, e2, e3]
  generalize hb : decide (9223372036854775808 ≤ x) = b
  have hp : partsN x = if 9218868437227405312 < x % 9223372036854775808 then (1, false, 0, 0)
    else if x % 9223372036854775808 = 9218868437227405312 then (2, b, 0, 0)
    else if x % 9223372036854775808 = 0 then (3, b, 0, 0)
    else if x % 9223372036854775808 < 4503599627370496 then (4, b, ((x % 4503599627370496 : Nat) : Int), -1074)
    else (4, b, ((x % 4503599627370496 + 4503599627370496 : Nat) : Int), ((x / 4503599627370496 % 2048 : Nat) : Int) - 1075) := by unfold partsN; rw [hb]
  rw [hp]
  by_cases h1 : x / 4503599627370496 % 2048 = 2047
  · simp only [if_pos (show ((x / 4503599627370496 % 2048 : Nat) : Int) = 2047 by omega)]
    by_cases h2 : x % 4503599627370496 = 0
    · rw [if_neg (by omega), if_pos (by omega)]
      exact Ev.step (f := fun _ => some (2, b, 0, 0)) (fun k => by rw [spec_parts_j0, if_neg (by simp [h2]), if_pos (by omega)]) (Ev.now _)
    · rw [if_pos (by omega)]
      exact Ev.step (f := fun _ => some (1, false, 0, 0)) (fun k => by rw [spec_parts_j0, if_pos (by simp; omega)]) (Ev.now _)
  · simp only [if_neg (show ¬ ((x / 4503599627370496 % 2048 : Nat) : Int) = 2047 by omega)]
    rw [if_neg (by omega), if_neg (by omega)]
    by_cases h2 : x / 4503599627370496 % 2048 = 0
    · refine Ev.step (f := fun k => spec_PartsOfNumber.j1 k ((x / 4503599627370496 % 2048 : Nat) : Int) ((x % 4503599627370496 : Nat) : Int) (((x % 4503599627370496 : Nat) : Int) == 0) 0 b 0 0) (fun k => by rw [spec_parts_j0, if_neg (by simp), if_neg (by omega), if_pos (by omega)]) ?_
      by_cases h3 : x % 4503599627370496 = 0
      · rw [if_pos (by omega)]
        exact Ev.step (f := fun _ => some (3, b, 0, 0)) (fun k => by rw [spec_parts_j1, if_pos (by simp [h3])]) (Ev.now _)
      · rw [if_neg (by omega), if_pos (by omega)]
        exact Ev.step (f := fun _ => some (4, b, ((x % 4503599627370496 : Nat) : Int), -1074)) (fun k => by rw [spec_parts_j1, if_neg (by simp; omega), if_pos (by omega)]) (Ev.now _)
    · refine Ev.step (f := fun k => spec_PartsOfNumber.j1 k ((x / 4503599627370496 % 2048 : Nat) : Int) ((x % 4503599627370496 : Nat) : Int) false 0 b 0 0) (fun k => by rw [spec_parts_j0, if_neg (by simp), if_neg (by omega), if_neg (by omega)]) ?_
      rw [if_neg (by omega), if_neg (by omega)]
      refine Ev.step (f := fun _ => some (4, b, ((x % 4503599627370496 + 4503599627370496 : Nat) : Int), ((x / 4503599627370496 % 2048 : Nat) : Int) - 1075)) (fun k => ?_) (Ev.now _)
      rw [spec_parts_j1, if_neg (by simp), if_neg (by omega), wu64, w64 (by omega) (by omega), show (((x % 4503599627370496 : Nat) : Int) + 4503599627370496) % 18446744073709551616 = ((x % 4503599627370496 + 4503599627370496 : Nat) : Int) by omega]
theorem impl_nan (x : Nat) (hx : x < 18446744073709551616) : impl_isNaN.f (x : Int) = some (nanB x) := by
  unfold impl_isNaN.f nanB
  rw [and63 x hx]
  congr 1
  rw [decide_eq_decide]; omega
theorem impl_parts (x : Nat) (hx : x < 18446744073709551616) : Ev (fun k => impl_PartsOfNumber.f k (x : Int)) (partsN x) := by
  unfold impl_PartsOfNumber.f
  rw [impl_nan x hx]
  simp only [Option.bind_some]
  have e1 : wrap64 (Go.bits .and .u64 ((x : Int) / 4503599627370496) 2047) = ((x / 4503599627370496 % 2048 : Nat) : Int) := by
    have h1 := and_u64 (x / 4503599627370496) 2047 (by omega) (by omega)
    rw [show (x / 4503599627370496) &&& 2047 = x / 4503599627370496 % 2048 from mask _ 11] at h1
    rw [show (x : Int) / 4503599627370496 = ((x / 4503599627370496 : Nat) : Int) by omega]
    have h2 : Go.bits .and .u64 (((x / 4503599627370496 : Nat) : Int)) 2047 = ((x / 4503599627370496 % 2048 : Nat) : Int) := h1
    rw [h2, w64 (by omega) (by omega)]
  have e2 : Go.bits .and .u64 (x : Int) 4503599627370495 = ((x % 4503599627370496 : Nat) : Int) := by
    have h1 := and_u64 x 4503599627370495 hx (by omega)
    rw [show x &&& 4503599627370495 = x % 4503599627370496 from mask _ 52] at h1
    exact h1
  have e3 : (((x : Int) / 9223372036854775808) == 1) = decide (9223372036854775808 ≤ x) := by rw [Bool.eq_iff_iff]; simp; omega
  rw [e1, e2, e3]
  generalize hb : decide (9223372036854775808 ≤ x) = b
  have hp : partsN x = if 9218868437227405312 < x % 9223372036854775808 then (1, false, 0, 0)
    else if x % 9223372036854775808 = 9218868437227405312 then (2, b, 0, 0)
    else if x % 9223372036854775808 = 0 then (3, b, 0, 0)
    else if x % 9223372036854775808 < 4503599627370496 then (4, b, ((x % 4503599627370496 : Nat) : Int), -1074)
    else (4, b, ((x % 4503599627370496 + 4503599627370496 : Nat) : Int), ((x / 4503599627370496 % 2048 : Nat) : Int) - 1075) := by unfold partsN; rw [hb]
  rw [hp]
  have hj : ∀ (k : Nat) (f e : Int) (z : Bool), impl_PartsOfNumber.j0 (k + 1) b f e z = if z = true then (some (3, b, 0, 0)) else (if e = 0 then (some (4, b, f, (-1074))) else (some (4, b, Go.bits .or .u64 f 4503599627370496, wrap64 (e - 1075)))) := fun _ _ _ _ => rfl
  by_cases h0 : 9218868437227405312 < x % 9223372036854775808
  · have : nanB x = true := decide_eq_true h0
    rw [if_pos h0]
    simp only [this, if_true]
    exact Ev.now _
  · have : nanB x = false := decide_eq_false h0
    rw [if_neg h0]
    simp only [this, Bool.false_eq_true, if_false]
    by_cases h1 : x / 4503599627370496 % 2048 = 2047
    · simp only [if_pos (show ((x / 4503599627370496 % 2048 : Nat) : Int) = 2047 by omega)]
      rw [if_pos (by omega)]
      exact Ev.now _
    · simp only [if_neg (show ¬ ((x / 4503599627370496 % 2048 : Nat) : Int) = 2047 by omega)]
      rw [if_neg (by omega)]
      by_cases h2 : x / 4503599627370496 % 2048 = 0
      · simp only [if_pos (show ((x / 4503599627370496 % 2048 : Nat) : Int) = 0 by omega)]
        by_cases h3 : x % 4503599627370496 = 0
        · rw [if_pos (by omega)]
          exact Ev.step (f := fun _ => some (3, b, 0, 0)) (fun k => by rw [hj, if_pos (by simp [h3])]) (Ev.now _)
        · rw [if_neg (by omega), if_pos (by omega)]
          exact Ev.step (f := fun _ => some (4, b, ((x % 4503599627370496 : Nat) : Int), -1074)) (fun k => by rw [hj, if_neg (by simp; omega), if_pos (by omega)]) (Ev.now _)
      · simp only [if_neg (show ¬ ((x / 4503599627370496 % 2048 : Nat) : Int) = 0 by omega)]
        rw [if_neg (by omega), if_neg (by omega)]
        refine Ev.step (f := fun _ => some (4, b, ((x % 4503599627370496 + 4503599627370496 : Nat) : Int), ((x / 4503599627370496 % 2048 : Nat) : Int) - 1075)) (fun k => ?_) (Ev.now _)
        have e4 : Go.bits .or .u64 ((x % 4503599627370496 : Nat) : Int) 4503599627370496 = ((x % 4503599627370496 + 4503599627370496 : Nat) : Int) := by
          have h4 := or_u64 (x % 4503599627370496) 4503599627370496 (by omega) (by omega)
          have h5 := join 1 (x % 4503599627370496) 52 (by omega)
          rw [Nat.or_comm, show (2 ^ 52 * 1 : Nat) = 4503599627370496 from rfl] at h5
          rw [h5, Nat.add_comm] at h4
          exact h4
        rw [hj, if_neg (by simp), if_neg (by omega), e4, w64 (by omega) (by omega)]
theorem shl_one (d : Nat) (h : d < 64) : shl .u64 1 (d : Int) = ((2 ^ d : Nat) : Int) := by
  unfold shl
  have hmin : min ((d : Int)).toNat IntKind.u64.bits = d := by
    rw [Int.toNat_natCast]
    show min d 64 = d
    omega
  have hp : 2 ^ d ≤ 2 ^ 63 := Nat.pow_le_pow_right (by omega) (by omega)
  rw [hmin, wu64, Int.one_mul, show ((2 : Int) ^ d) = ((2 ^ d : Nat) : Int) by rw [Int.natCast_pow]; rfl]
  generalize 2 ^ d = p at *
  omega
theorem shl_u64 (M d : Nat) (hd : d ≤ 64) (h : M * 2 ^ d < 18446744073709551616) : shl .u64 (M : Int) (d : Int) = ((M * 2 ^ d : Nat) : Int) := by
  unfold shl
  have hmin : min ((d : Int)).toNat IntKind.u64.bits = d := by
    rw [Int.toNat_natCast]
    show min d 64 = d
    omega
  rw [hmin, wu64, show (M : Int) * ((2 : Int) ^ d) = ((M * 2 ^ d : Nat) : Int) by rw [Int.natCast_mul, Int.natCast_pow]; rfl]
  generalize M * 2 ^ d = p at *
  omega
theorem shr_u64 (M d : Nat) (hd : d ≤ 64) : shr .u64 (M : Int) (d : Int) = ((M / 2 ^ d : Nat) : Int) := by
  unfold shr
  have hmin : min ((d : Int)).toNat IntKind.u64.bits = d := by
    rw [Int.toNat_natCast]
    show min d 64 = d
    omega
  rw [hmin, Int.natCast_ediv, Int.natCast_pow]; rfl
theorem and_low (M d : Nat) (hM : M < 18446744073709551616) (hd : d < 64) : Go.bits .and .u64 (M : Int) (IntKind.u64.wrap (shl .u64 1 (d : Int) - 1)) = ((M % 2 ^ d : Nat) : Int) := by
  rw [shl_one d hd]
  have hp : 2 ^ d ≤ 2 ^ 63 := Nat.pow_le_pow_right (by omega) (by omega)
  have hp0 : 0 < 2 ^ d := Nat.pow_pos (by omega)
  have e : IntKind.u64.wrap (((2 ^ d : Nat) : Int) - 1) = ((2 ^ d - 1 : Nat) : Int) := by
    rw [wu64]
    generalize 2 ^ d = p at *
    omega
  have hb : 2 ^ d - 1 < 18446744073709551616 := by
    generalize 2 ^ d = p at *
    omega
  rw [e, and_u64 M (2 ^ d - 1) hM hb, mask]
theorem and_one (M : Nat) (hM : M < 18446744073709551616) : Go.bits .and .u64 (M : Int) 1 = ((M % 2 : Nat) : Int) := by
  have h1 := and_u64 M 1 hM (by omega)
  rw [show M &&& 1 = M % 2 from mask M 1] at h1
  exact h1
/-- A value with its sign, modulo 2^32, about 0. -/
def toIn (n : Nat) : Int := if n ≥ 2147483648 then (n : Int) - 4294967296 else n
def toI (b : Bool) (V : Nat) : Int := toIn (if b then (4294967296 - V % 4294967296) % 4294967296 else V % 4294967296)
/-- The whole part of a number of parts. -/
def wholeV (m : Nat) (e : Int) : Nat := if e < 0 then m / 2 ^ (-e).toNat else m * 2 ^ e.toNat
/-- What ToInt32 tells. -/
def toInt32T (x : Nat) : Int := if (partsN x).1 = 4 then toI (partsN x).2.1 (wholeV (partsN x).2.2.1.toNat (partsN x).2.2.2) else 0
theorem spec_ti_j4 (k : Nat) (v : Nat) (a : Int) (b : Bool) (c d : Int) (_hv : v < 18446744073709551616) : spec_ToInt32.j4 (k + 1) (v : Int) a b c d = some (toI b v) := by
  have hj : spec_ToInt32.j4 (k + 1) (v : Int) a b c d = if b = true then (if (Int.tmod (wrap64 (4294967296 - (wrap64 (Int.tmod (v : Int) 4294967296)))) 4294967296) ≥ 2147483648 then (some (wrap64 ((Int.tmod (wrap64 (4294967296 - (wrap64 (Int.tmod (v : Int) 4294967296)))) 4294967296) - 4294967296))) else (some (Int.tmod (wrap64 (4294967296 - (wrap64 (Int.tmod (v : Int) 4294967296)))) 4294967296))) else (if (wrap64 (Int.tmod (v : Int) 4294967296)) ≥ 2147483648 then (some (wrap64 ((wrap64 (Int.tmod (v : Int) 4294967296)) - 4294967296))) else (some (wrap64 (Int.tmod (v : Int) 4294967296)))) := rfl
  have e1 : wrap64 (Int.tmod (v : Int) 4294967296) = (v : Int) % 4294967296 := by rw [tmodN (Int.natCast_nonneg v), w64 (by omega) (by omega)]
  rw [hj, e1]
  unfold toI toIn
  cases b
  · simp only [Bool.false_eq_true, if_false]
    by_cases h : (v : Int) % 4294967296 ≥ 2147483648
    · rw [if_pos h, if_pos (by omega), w64 (by omega) (by omega)]
      congr 1
    · rw [if_neg h, if_neg (by omega)]
      congr 1
  · simp only [if_true]
    rw [w64 (x := 4294967296 - (v : Int) % 4294967296) (by omega) (by omega), tmodN (a := 4294967296 - (v : Int) % 4294967296) (by omega)]
    by_cases h : (4294967296 - (v : Int) % 4294967296) % 4294967296 ≥ 2147483648
    · rw [if_pos h, if_pos (by omega), w64 (by omega) (by omega)]
      congr 1; omega
    · rw [if_neg h, if_neg (by omega)]
      congr 1; omega
theorem toI_mod (b : Bool) (u v : Nat) (h : u % 4294967296 = v % 4294967296) : toI b u = toI b v := by unfold toI; rw [h]
theorem mul_mod (p m u : Nat) (h : p * u % m = 0) (q : Nat) : p * (u * q) % m = 0 := by
  rw [← Nat.mul_assoc, Nat.mul_mod, h]; simp
/-- From the loop that brings the value up. -/
theorem spec_ti_l1 (M : Nat) (_hM : M < 18446744073709551616) (e : Int) (he : e ≤ 2000) (a : Int) (b : Bool) (c : Int) :
    ∀ (d i : Nat), 64 - i = d → i ≤ 64 → (i : Int) ≤ max e 0 → Ev (fun k => spec_ToInt32.l1 k ((M * 2 ^ i % 18446744073709551616 : Nat) : Int) (i : Int) a b c e) (toI b (M * 2 ^ e.toNat)) := by
  have hl : ∀ (k : Nat) (x4 x6 : Int), spec_ToInt32.l1 (k + 1) x4 x6 a b c e = if x6 < e then (if x6 < 64 then (spec_ToInt32.l1 k (IntKind.u64.wrap (x4 * 2)) (wrap64 (x6 + 1)) a b c e) else (spec_ToInt32.j3 k x4 a b c e)) else (spec_ToInt32.j3 k x4 a b c e) := fun _ _ _ => rfl
  have hj : ∀ (k : Nat) (x4 : Int), spec_ToInt32.j3 (k + 1) x4 a b c e = if e > 63 then (spec_ToInt32.j4 k 0 a b c e) else (spec_ToInt32.j4 k x4 a b c e) := fun _ _ => rfl
  have hend : ∀ i : Nat, i ≤ 64 → (i : Int) ≤ max e 0 → (e ≤ i ∨ i = 64) → Ev (fun k => spec_ToInt32.j3 k ((M * 2 ^ i % 18446744073709551616 : Nat) : Int) a b c e) (toI b (M * 2 ^ e.toNat)) := by
    intro i hi hie hc
    have hlt : M * 2 ^ i % 18446744073709551616 < 18446744073709551616 := Nat.mod_lt _ (by omega)
    by_cases h : e > 63
    · have h64 : toI b (M * 2 ^ e.toNat) = toI b 0 := by
        apply toI_mod
        obtain ⟨r, hr⟩ : ∃ r, e.toNat = 32 + r := ⟨e.toNat - 32, by omega⟩
        rw [hr, Nat.pow_add]
        exact mul_mod M 4294967296 (2 ^ 32) (by rw [show (2 : Nat) ^ 32 = 4294967296 from rfl]; exact Nat.mul_mod_left _ _) _
      rw [h64]
      have h4 : ∀ k, spec_ToInt32.j4 (k + 1) 0 a b c e = some (toI b 0) := fun k => spec_ti_j4 k 0 a b c e (by omega)
      exact Ev.step (f := fun k => spec_ToInt32.j4 k 0 a b c e) (fun k => by rw [hj, if_pos h]) (Ev.step (f := fun _ => some (toI b 0)) h4 (Ev.now _))
    · have hie2 : i = e.toNat := by omega
      subst hie2
      have h5 : toI b (M * 2 ^ e.toNat) = toI b (M * 2 ^ e.toNat % 18446744073709551616) := by
        apply toI_mod
        generalize M * 2 ^ e.toNat = p
        omega
      rw [h5]
      exact Ev.step (f := fun k => spec_ToInt32.j4 k ((M * 2 ^ e.toNat % 18446744073709551616 : Nat) : Int) a b c e) (fun k => by rw [hj, if_neg h]) (Ev.step (f := fun _ => some _) (fun k => spec_ti_j4 k _ a b c e hlt) (Ev.now _))
  intro d
  induction d with
  | zero =>
    intro i hd hi hie
    obtain rfl : i = 64 := by omega
    refine Ev.step (fun k => ?_) (hend 64 (by omega) hie (.inr rfl))
    rw [hl]
    by_cases h : ((64 : Nat) : Int) < e
    · rw [if_pos h, if_neg (by omega)]
    · rw [if_neg h]
  | succ d ih =>
    intro i hd hi hie
    by_cases h : (i : Int) < e
    · have h' := ih (i + 1) (by omega) (by omega) (by omega)
      refine Ev.step (fun k => ?_) h'
      have e1 : M * 2 ^ (i + 1) = M * 2 ^ i * 2 := by rw [Nat.pow_succ, Nat.mul_assoc]
      rw [e1]
      generalize M * 2 ^ i = p
      rw [hl, if_pos h, if_pos (by omega), w64s (by omega), wu64, show ((p % 18446744073709551616 : Nat) : Int) * 2 % 18446744073709551616 = ((p * 2 % 18446744073709551616 : Nat) : Int) by omega]
    · refine Ev.step (fun k => ?_) (hend i (by omega) hie (.inl (by omega)))
      rw [hl, if_neg h]
theorem spec_ti_j1 (M : Nat) (hM : M < 18446744073709551616) (e : Int) (he : e ≤ 2000) (a : Int) (b : Bool) (c : Int) : Ev (fun k => spec_ToInt32.j1 k (M : Int) a b c e) (toI b (M * 2 ^ e.toNat)) := by
  have h := spec_ti_l1 M hM e he a b c 64 0 rfl (by omega) (by omega)
  rw [Nat.pow_zero, Nat.mul_one, Nat.mod_eq_of_lt hM] at h
  exact Ev.step (fun k => rfl) h
theorem spec_ti_l0 (M : Nat) (hM : M < 18446744073709551616) (e : Int) (he : e < 0) (he2 : -2000 ≤ e) (a : Int) (b : Bool) (c : Int) :
    ∀ (d i : Nat), (-e).toNat - i = d → i ≤ (-e).toNat → Ev (fun k => spec_ToInt32.l0 k ((M / 2 ^ i : Nat) : Int) (i : Int) a b c e) (toI b (M / 2 ^ (-e).toNat)) := by
  have hl : ∀ (k : Nat) (x4 x5 : Int), spec_ToInt32.l0 (k + 1) x4 x5 a b c e = if x5 < (wrap64 (-e)) then (if x4 > 0 then (spec_ToInt32.l0 k (IntKind.u64.wrap (Int.tdiv x4 2)) (wrap64 (x5 + 1)) a b c e) else (spec_ToInt32.j1 k x4 a b c e)) else (spec_ToInt32.j1 k x4 a b c e) := fun _ _ _ => rfl
  have hw : wrap64 (-e) = -e := w64 (by omega) (by omega)
  have hend : ∀ q : Nat, q < 18446744073709551616 → Ev (fun k => spec_ToInt32.j1 k (q : Int) a b c e) (toI b q) := by
    intro q hq
    have := spec_ti_j1 q hq e (by omega) a b c
    rw [show e.toNat = 0 by omega, Nat.pow_zero, Nat.mul_one] at this
    exact this
  intro d
  induction d with
  | zero =>
    intro i hd hi
    obtain rfl : i = (-e).toNat := by omega
    refine Ev.step (fun k => ?_) (hend (M / 2 ^ (-e).toNat) (Nat.lt_of_le_of_lt (Nat.div_le_self _ _) hM))
    rw [hl, hw, if_neg (by omega)]
  | succ d ih =>
    intro i hd hi
    have hle : M / 2 ^ i ≤ M := Nat.div_le_self _ _
    by_cases h : M / 2 ^ i > 0
    · have h' := ih (i + 1) (by omega) (by omega)
      have hdiv : M / 2 ^ (i + 1) = M / 2 ^ i / 2 := by rw [Nat.div_div_eq_div_mul, ← Nat.pow_succ]
      rw [hdiv] at h'
      refine Ev.step (fun k => ?_) h'
      generalize M / 2 ^ i = p at *
      rw [hl, hw, if_pos (by omega), if_pos (by omega), w64s (by omega), wu64, tdivN (by omega), show (p : Int) / 2 % 18446744073709551616 = ((p / 2 : Nat) : Int) by omega]
    · have hz : M / 2 ^ (-e).toNat = 0 := by
        obtain ⟨r, hr⟩ : ∃ r, (-e).toNat = i + r := ⟨(-e).toNat - i, by omega⟩
        rw [hr, Nat.pow_add, ← Nat.div_div_eq_div_mul, Nat.eq_zero_of_not_pos h, Nat.zero_div]
      rw [hz]
      refine Ev.step (fun k => ?_) (hend 0 (by omega))
      rw [hl, hw, if_pos (by omega), Nat.eq_zero_of_not_pos h, if_neg (by omega)]
theorem spec_toInt32 (x : Nat) (hx : x < 18446744073709551616) : Ev (fun k => spec_ToInt32.f k (x : Int)) (toInt32T x) := by
  unfold spec_ToInt32.f toInt32T
  refine Ev.bind (spec_parts x hx) ?_
  by_cases h : (partsN x).1 = 4
  · obtain ⟨b, m, e, hp, hm0, hm, he1, he2, _⟩ := parts_fin x hx h
    rw [hp]
    simp only [if_true]
    unfold wholeV
    rw [Int.toNat_natCast]
    by_cases hneg : e < 0
    · simp only [if_pos hneg]
      have := spec_ti_l0 m (by omega) e hneg (by omega) 4 b m (-e).toNat 0 (by omega) (by omega)
      rw [Nat.pow_zero, Nat.div_one] at this
      exact this
    · simp only [if_neg hneg]
      exact spec_ti_j1 m (by omega) e (by omega) 4 b m
  · simp only [if_neg h]
    exact Ev.now _
theorem impl_ti_end (b : Bool) (V : Nat) (_hV : V < 18446744073709551616) : (if b = true then (some (wrap64 (wrap32 ((IntKind.u64.wrap (-(V : Int))) % 4294967296)))) else (some (wrap64 (wrap32 ((V : Int) % 4294967296))))) = some (toI b V) := by
  unfold toI toIn wrap32
  rw [wu64]
  cases b
  · simp only [Bool.false_eq_true, if_false]
    rw [w64 (by omega) (by omega)]
    refine congrArg some ?_
    by_cases h : V % 4294967296 ≥ 2147483648
    · rw [if_pos h]; omega
    · rw [if_neg h]; omega
  · simp only [if_true]
    rw [w64 (by omega) (by omega)]
    refine congrArg some ?_
    by_cases h : (4294967296 - V % 4294967296) % 4294967296 ≥ 2147483648
    · rw [if_pos h]; omega
    · rw [if_neg h]; omega
theorem impl_toInt32 (x : Nat) (hx : x < 18446744073709551616) : Ev (fun k => impl_ToInt32.f k (x : Int)) (toInt32T x) := by
  unfold impl_ToInt32.f toInt32T
  refine Ev.bind (impl_parts x hx) ?_
  have hj : ∀ (k : Nat) (x4 : Int) (z : Bool) (a : Int) (b : Bool) (c d : Int), impl_ToInt32.j0 (k + 1) x4 z a b c d = if z = true then (if b = true then (some (wrap64 (wrap32 ((IntKind.u64.wrap (-x4)) % 4294967296)))) else (some (wrap64 (wrap32 ((x4) % 4294967296))))) else (if d ≥ 0 then (if 0 ≤ d then (if b = true then (some (wrap64 (wrap32 ((IntKind.u64.wrap (-(shl .u64 c d))) % 4294967296)))) else (some (wrap64 (wrap32 ((shl .u64 c d) % 4294967296))))) else (none)) else (if 0 ≤ (wrap64 (-d)) then (if b = true then (some (wrap64 (wrap32 ((IntKind.u64.wrap (-(shr .u64 c (wrap64 (-d))))) % 4294967296)))) else (some (wrap64 (wrap32 ((shr .u64 c (wrap64 (-d))) % 4294967296))))) else (none))) := fun _ _ _ _ _ _ _ => rfl
  have hz : ∀ (a : Int) (b : Bool) (c d : Int), Ev (fun k => impl_ToInt32.j0 k 0 true a b c d) (toI b 0) := by
    intro a b c d
    refine Ev.step (f := fun _ => some (toI b 0)) (fun k => ?_) (Ev.now _)
    rw [hj, if_pos rfl]
    exact impl_ti_end b 0 (by omega)
  by_cases h : (partsN x).1 = 4
  · obtain ⟨b, m, e, hp, hm0, hm, he1, he2, _⟩ := parts_fin x hx h
    rw [hp]
    simp only [if_true]
    unfold wholeV
    rw [Int.toNat_natCast]
    by_cases h1 : e > 31
    · simp only [if_pos h1, if_neg (show ¬ e < 0 by omega)]
      have : toI b (m * 2 ^ e.toNat) = toI b 0 := by
        apply toI_mod
        obtain ⟨r, hr⟩ : ∃ r, e.toNat = 32 + r := ⟨e.toNat - 32, by omega⟩
        rw [hr, Nat.pow_add]
        have h2 : m * 2 ^ 32 % 4294967296 = 0 := by rw [show (2 : Nat) ^ 32 = 4294967296 from rfl]; exact Nat.mul_mod_left _ _
        rw [← Nat.mul_assoc, Nat.mul_mod, h2]; simp
      rw [this]
      exact hz 4 b m e
    · simp only [if_neg h1]
      by_cases h2 : e < -63
      · rw [decide_eq_true h2, if_pos (by omega)]
        have : m / 2 ^ (-e).toNat = 0 := Nat.div_eq_of_lt (Nat.lt_of_lt_of_le hm (Nat.le_trans (show 9007199254740992 ≤ 2 ^ 53 from Nat.le_refl _) (Nat.pow_le_pow_right (by omega) (by omega))))
        rw [this]
        exact hz 4 b m e
      · rw [decide_eq_false h2]
        by_cases h3 : e < 0
        · rw [if_pos h3]
          refine Ev.step (f := fun _ => some (toI b (m / 2 ^ (-e).toNat))) (fun k => ?_) (Ev.now _)
          have hs := shr_u64 m (-e).toNat (by omega)
          rw [show (((-e).toNat : Nat) : Int) = -e by omega] at hs
          rw [hj, if_neg (by simp), if_neg (by omega), w64 (x := -e) (by omega) (by omega), if_pos (by omega), hs]
          exact impl_ti_end b _ (Nat.lt_of_le_of_lt (Nat.div_le_self _ _) (by omega))
        · rw [if_neg h3]
          have hlt : m * 2 ^ e.toNat < 2 ^ 84 + 1 ∧ toI b (m * 2 ^ e.toNat) = toI b (m * 2 ^ e.toNat % 18446744073709551616) := by
            constructor
            · have : m * 2 ^ e.toNat ≤ 2 ^ 53 * 2 ^ 31 := Nat.mul_le_mul (Nat.le_of_lt hm) (Nat.pow_le_pow_right (by omega) (by omega))
              omega
            · apply toI_mod
              generalize m * 2 ^ e.toNat = p
              omega
          refine Ev.step (f := fun _ => some (toI b (m * 2 ^ e.toNat))) (fun k => ?_) (Ev.now _)
          have hs : shl .u64 (m : Int) e = ((m * 2 ^ e.toNat % 18446744073709551616 : Nat) : Int) := by
            unfold shl
            have hmin : min e.toNat IntKind.u64.bits = e.toNat := by
              show min e.toNat 64 = e.toNat
              omega
            rw [hmin, wu64, show (m : Int) * ((2 : Int) ^ e.toNat) = ((m * 2 ^ e.toNat : Nat) : Int) by rw [Int.natCast_mul, Int.natCast_pow]; rfl]
            omega
          rw [hj, if_neg (by simp), if_pos (by omega), if_pos (by omega), hs, hlt.2]
          exact impl_ti_end b _ (Nat.mod_lt _ (by omega))
  · simp only [if_neg h]
    have h4 : ∀ b : Bool, toI b 0 = 0 := by intro b; cases b <;> rfl
    have := hz (partsN x).1 (partsN x).2.1 (partsN x).2.2.1 (partsN x).2.2.2
    rw [h4] at this
    exact this
theorem FnExactToInt32 : laws_FnExactToInt32.Pure := by
  intro x hx
  obtain ⟨h0, h1⟩ := wfu64 hx
  obtain ⟨x, rfl⟩ : ∃ n : Nat, x = n := ⟨x.toNat, by omega⟩
  unfold laws_FnExactToInt32.f
  exact Ev.rounds (Ev.bind (spec_toInt32 x (by omega)) (Ev.bind (impl_toInt32 x (by omega)) (by simpa using Ev.now true)))
end Go.Proofs.Ytcnajbnamgohnaa.Pure
