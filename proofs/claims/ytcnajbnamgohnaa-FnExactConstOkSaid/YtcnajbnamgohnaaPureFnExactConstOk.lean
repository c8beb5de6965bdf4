/- At every constant the program's ConstOk and the reference's tell the same. No condition but the statement's own. -/
import Derived.Test.YtcnajbnamgohnaaMFnExactConstOkx2
import Derived.Test.YtcnajbnamgohnaaCB
namespace Go.Proofs.Ytcnajbnamgohnaa.Pure
open Go.RowKit Go.Proofs.Ytcnajbnamgohnaa.MFnExactConstOk Go.Proofs.YtcnajbnamgohnaaW.PrintWords Go.Proofs.YtcnajbnamgohnaaW.PrintLast Go.Proofs.Ytcnajbnamgohnaa.CB
theorem spec_pow_l0 (n : Nat) (hn : n ≤ 63) : ∀ (d i : Nat), n - i = d → i ≤ n → Ev (fun k => spec_l03Pow.l0 k (n : Int) ((2 ^ i : Nat) : Int) (i : Int)) ((2 ^ n : Nat) : Int) := by
  intro d
  induction d with
  | zero =>
    intro i hd hi
    obtain rfl : i = n := by omega
    exact Ev.step (f := fun _ => some ((2 ^ i : Nat) : Int)) (fun k => by simp only [spec_l03Pow.l0]; rw [if_neg (by omega)]) (Ev.now _)
  | succ d ih =>
    intro i hd hi
    refine Ev.step (fun k => ?_) (ih (i + 1) (by omega) (by omega))
    simp only [spec_l03Pow.l0]
    have hp : 2 ^ (i + 1) ≤ 2 ^ 63 := Nat.pow_le_pow_right (by omega) (by omega)
    rw [if_pos (by omega), wu64, w64 (by omega) (by omega)]
    rw [Nat.pow_succ] at hp
    rw [show ((2 ^ i : Nat) : Int) * 2 % 18446744073709551616 = ((2 ^ (i + 1) : Nat) : Int) by rw [Nat.pow_succ]; omega]
    rfl
theorem spec_pow (n : Nat) (hn : n ≤ 63) : Ev (fun k => spec_l03Pow.f k (n : Int)) ((2 ^ n : Nat) : Int) := by
  unfold spec_l03Pow.f; exact spec_pow_l0 n hn n 0 (by omega) (by omega)
theorem spec_pow63 : Ev (fun k => spec_l03Pow.f k 63) 9223372036854775808 := spec_pow 63 (by omega)
/-- The parts of a number: kind, below, mantissa, exponent. -/
def partsN (x : Nat) : Int × Bool × Int × Int :=
  if 9218868437227405312 < x % 9223372036854775808 then (1, false, 0, 0)
  else if x % 9223372036854775808 = 9218868437227405312 then (2, decide (9223372036854775808 ≤ x), 0, 0)
  else if x % 9223372036854775808 = 0 then (3, decide (9223372036854775808 ≤ x), 0, 0)
  else if x % 9223372036854775808 < 4503599627370496 then (4, decide (9223372036854775808 ≤ x), ((x % 4503599627370496 : Nat) : Int), -1074)
  else (4, decide (9223372036854775808 ≤ x), ((x % 4503599627370496 + 4503599627370496 : Nat) : Int), ((x / 4503599627370496 % 2048 : Nat) : Int) - 1075)
def nanB (x : Nat) : Bool := decide (9218868437227405312 < x % 9223372036854775808)
theorem partsN_kind (x : Nat) : ((partsN x).1 == 1) = nanB x := by
  unfold partsN nanB
  split
  · rename_i h; simp [h]
  · rename_i h; rw [decide_eq_false h]; split
    · rfl
    · split
      · rfl
      · split <;> rfl
/-- The parts of a finite number. -/
theorem parts_fin (x : Nat) (_hx : x < 18446744073709551616) (h : (partsN x).1 = 4) : ∃ (b : Bool) (m : Nat) (e : Int), partsN x = (4, b, (m : Int), e) ∧ m ≠ 0 ∧ m < 9007199254740992 ∧ -1074 ≤ e ∧ e ≤ 971 ∧ (e ≠ -1074 → 4503599627370496 ≤ m) := by
  revert h
  unfold partsN
  split
  · intro h; exact absurd (show (1 : Int) = 4 from h) (by decide)
  · split
    · intro h; exact absurd (show (2 : Int) = 4 from h) (by decide)
    · split
      · intro h; exact absurd (show (3 : Int) = 4 from h) (by decide)
      · split
        · intro _; exact ⟨_, _, _, rfl, by omega, by omega, by omega, by omega, fun h => absurd rfl h⟩
        · intro _; exact ⟨_, _, _, rfl, by omega, by omega, by omega, by omega, fun _ => by omega⟩
theorem spec_parts_j1 (k : Nat) (e f : Int) (b z : Bool) : spec_PartsOfNumber.j1 (k + 1) e f z 0 b 0 0 = if z = true then some (3, b, 0, 0) else if e = 0 then some (4, b, f, (-1074)) else some (4, b, IntKind.u64.wrap (f + 4503599627370496), wrap64 (e - 1075)) := rfl
theorem spec_parts_j0 (k : Nat) (e f : Int) (b z : Bool) : spec_PartsOfNumber.j0 (k + 1) e f z 0 b 0 0 = if z = true then some (1, false, 0, 0) else if e = 2047 then some (2, b, 0, 0) else if e = 0 then spec_PartsOfNumber.j1 k e f (f == 0) 0 b 0 0 else spec_PartsOfNumber.j1 k e f false 0 b 0 0 := rfl
theorem spec_parts (x : Nat) (hx : x < 18446744073709551616) : Ev (fun k => spec_PartsOfNumber.f k (x : Int)) (partsN x) := by
  unfold spec_PartsOfNumber.f
  refine Ev.bind spec_pow63 ?_
  simp only [if_neg (show ¬ (9223372036854775808 : Int) = 0 by omega)]
  have e1 : wrap64 (Int.tmod (IntKind.u64.wrap (Int.tdiv (x : Int) 4503599627370496)) 2048) = ((x / 4503599627370496 % 2048 : Nat) : Int) := by
    rw [wu64, tdivN (Int.natCast_nonneg x), tmodN (by omega), w64 (by omega) (by omega)]; omega
  have e2 : Int.tmod (x : Int) 4503599627370496 = ((x % 4503599627370496 : Nat) : Int) := by rw [tmodN (Int.natCast_nonneg x)]; omega
  have e3 : ((IntKind.u64.wrap (Int.tdiv (x : Int) 9223372036854775808)) == 1) = decide (9223372036854775808 ≤ x) := by
    rw [wu64, tdivN (Int.natCast_nonneg x), Bool.eq_iff_iff]; simp; omega
  rw [e1, e2, e3]
  generalize hb : decide (9223372036854775808 ≤ x) = b
  have hp : partsN x = if 9218868437227405312 < x % 9223372036854775808 then (1, false, 0, 0)
    else if x % 9223372036854775808 = 9218868437227405312 then (2, b, 0, 0)
    else if x % 9223372036854775808 = 0 then (3, b, 0, 0)
    else if x % 9223372036854775808 < 4503599627370496 then (4, b, ((x % 4503599627370496 : Nat) : Int), -1074)
    else (4, b, ((x % 4503599627370496 + 4503599627370496 : Nat) : Int), ((x / 4503599627370496 % 2048 : Nat) : Int) - 1075) := by unfold partsN; rw [hb]
  rw [hp]
  by_cases h1 : x / 4503599627370496 % 2048 = 2047
  · simp only [if_pos (show ((x / 4503599627370496 % 2048 : Nat) : Int) = 2047 by omega)]
    by_cases h2 : x % 4503599627370496 = 0
    · rw [if_neg (by omega), if_pos (by omega)]
      exact Ev.step (f := fun _ => some (2, b, 0, 0)) (fun k => by rw [spec_parts_j0, if_neg (by simp [h2]), if_pos (by omega)]) (Ev.now _)
    · rw [if_pos (by omega)]
      exact Ev.step (f := fun _ => some (1, false, 0, 0)) (fun k => by rw [spec_parts_j0, if_pos (by simp; omega)]) (Ev.now _)
  · simp only [if_neg (show ¬ ((x / 4503599627370496 % 2048 : Nat) : Int) = 2047 by omega)]
    rw [if_neg (by omega), if_neg (by omega)]
    by_cases h2 : x / 4503599627370496 % 2048 = 0
    · refine Ev.step (f := fun k => spec_PartsOfNumber.j1 k ((x / 4503599627370496 % 2048 : Nat) : Int) ((x % 4503599627370496 : Nat) : Int) (((x % 4503599627370496 : Nat) : Int) == 0) 0 b 0 0) (fun k => by rw [spec_parts_j0, if_neg (by simp), if_neg (by omega), if_pos (by omega)]) ?_
      by_cases h3 : x % 4503599627370496 = 0
      · rw [if_pos (by omega)]
        exact Ev.step (f := fun _ => some (3, b, 0, 0)) (fun k => by rw [spec_parts_j1, if_pos (by simp [h3])]) (Ev.now _)
      · rw [if_neg (by omega), if_pos (by omega)]
        exact Ev.step (f := fun _ => some (4, b, ((x % 4503599627370496 : Nat) : Int), -1074)) (fun k => by rw [spec_parts_j1, if_neg (by simp; omega), if_pos (by omega)]) (Ev.now _)
    · refine Ev.step (f := fun k => spec_PartsOfNumber.j1 k ((x / 4503599627370496 % 2048 : Nat) : Int) ((x % 4503599627370496 : Nat) : Int) false 0 b 0 0) (fun k => by rw [spec_parts_j0, if_neg (by simp), if_neg (by omega), if_neg (by omega)]) ?_
      rw [if_neg (by omega), if_neg (by omega)]
      refine Ev.step (f := fun _ => some (4, b, ((x % 4503599627370496 + 4503599627370496 : Nat) : Int), ((x / 4503599627370496 % 2048 : Nat) : Int) - 1075)) (fun k => ?_) (Ev.now _)
      rw [spec_parts_j1, if_neg (by simp), if_neg (by omega), wu64, w64 (by omega) (by omega), show (((x % 4503599627370496 : Nat) : Int) + 4503599627370496) % 18446744073709551616 = ((x % 4503599627370496 + 4503599627370496 : Nat) : Int) by omega]
theorem spec_nan (x : Nat) (hx : x < 18446744073709551616) : Ev (fun k => spec_l03Nan.f k (x : Int)) (nanB x) := by
  unfold spec_l03Nan.f
  refine Ev.bind (spec_parts x hx) ?_
  rw [partsN_kind]
  exact Ev.now _
theorem impl_nan (x : Nat) (hx : x < 18446744073709551616) : impl_isNaN.f (x : Int) = some (nanB x) := by
  unfold impl_isNaN.f nanB
  rw [and63 x hx]
  congr 1
  rw [decide_eq_decide]; omega
/-- No text. -/
def noT (t : ByteArray) : Bool := t.toList == ([] : List UInt8)
/-- A constant whose number is not used. -/
def bareB (n v : Int) (t : ByteArray) : Option Bool := if n = 3 then (if v = 0 then some (noT t) else some false) else if n = 4 then (if v = 0 then some (noT t) else some false) else if n = 5 then (if v = 0 then some (noT t) else some false) else some false
/-- What both tell of a constant. -/
def constB (n : Int) (v : Nat) (t : ByteArray) : Bool :=
  if n = 1 then (noT t && (!nanB v || decide ((v : Int) = 9221120237041090560)))
  else if n = 2 then (decide ((t.size : Int) ≤ 40) && decide ((v : Int) = 0))
  else (bareB n v t).getD false
theorem bare_some (n v : Int) (t : ByteArray) : bareB n v t = some ((bareB n v t).getD false) := by
  unfold bareB
  by_cases hv : v = 0
  · simp only [if_pos hv]
    by_cases h3 : n = 3
    · simp [h3]
    · by_cases h4 : n = 4
      · simp [h4]
      · by_cases h5 : n = 5
        · simp [h5]
        · simp [h3, h4, h5]
  · simp [hv]
theorem spec_const (n : Int) (v : Nat) (t : ByteArray) (hv : v < 18446744073709551616) : Ev (fun k => spec_ConstOk.f k n (v : Int) t) (constB n v t) := by
  have hr : ∀ k, spec_ConstOk.f k n (v : Int) t = if n = 1 then (if t.toList = ([] : List UInt8) then ((spec_l03Nan.f k (v : Int)).bind fun t110 => (if t110 = true then (some ((v : Int) == 9221120237041090560)) else (some true))) else (some false)) else (if n = 2 then (if (v : Int) = 0 then (some (decide ((t.size : Int) ≤ 40))) else (some false)) else bareB n v t) := fun _ => rfl
  simp only [hr]
  unfold constB
  by_cases h1 : n = 1
  · simp only [if_pos h1]
    by_cases ht : t.toList = ([] : List UInt8)
    · have hn : noT t = true := by unfold noT; rw [ht]; rfl
      simp only [if_pos ht, hn, Bool.true_and]
      refine Ev.bind (spec_nan v hv) ?_
      cases nanB v with
      | true =>
        simp only [if_true, Bool.not_true, Bool.false_or]
        exact Ev.now _
      | false =>
        simp only [Bool.false_eq_true, if_false, Bool.not_false, Bool.true_or]
        exact Ev.now _
    · have hn : noT t = false := by unfold noT; simpa using ht
      simp only [if_neg ht, hn, Bool.false_and]
      exact Ev.now _
  · simp only [if_neg h1]
    by_cases h2 : n = 2
    · simp only [if_pos h2]
      by_cases h0 : (v : Int) = 0
      · simp only [if_pos h0, decide_eq_true h0, Bool.and_true]
        exact Ev.now _
      · simp only [if_neg h0, decide_eq_false h0, Bool.and_false]
        exact Ev.now _
    · simp only [if_neg h2]
      rw [bare_some]
      exact Ev.now _
theorem impl_const (n : Int) (v : Nat) (t : ByteArray) (hv : v < 18446744073709551616) : impl_ConstOk.f n (v : Int) t = some (constB n v t) := by
  have hr : impl_ConstOk.f n (v : Int) t = if n = 1 then ((impl_isNaN.f (v : Int)).bind fun t115 => (if t115 = true then (if (v : Int) = 9221120237041090560 then (some (noT t)) else (some false)) else (some (noT t)))) else (if n = 2 then (if (t.size : Int) ≤ 40 then (some ((v : Int) == 0)) else (some false)) else bareB n v t) := rfl
  rw [hr, impl_nan v hv]
  unfold constB
  simp only [Option.bind_some]
  by_cases h1 : n = 1
  · simp only [if_pos h1]
    cases nanB v with
    | true =>
      by_cases h2 : (v : Int) = 9221120237041090560
      · simp only [if_true, if_pos h2, decide_eq_true h2, Bool.or_true, Bool.and_true]
      · simp only [if_true, if_neg h2, decide_eq_false h2, Bool.not_true, Bool.or_false, Bool.and_false]
    | false => simp only [Bool.false_eq_true, if_false, Bool.not_false, Bool.true_or, Bool.and_true]
  · simp only [if_neg h1]
    by_cases h2 : n = 2
    · simp only [if_pos h2]
      by_cases h0 : (t.size : Int) ≤ 40
      · simp only [if_pos h0, decide_eq_true h0, Bool.true_and]
        rfl
      · simp only [if_neg h0, decide_eq_false h0, Bool.false_and]
    · simp only [if_neg h2]
      rw [bare_some]
      rfl
theorem FnExactConstOk (n v : Int) (t : ByteArray) (hv : (Lit.int .u64 v).wf = true) (ht : t.size ≤ maxLen) : ∃ k, laws_FnExactConstOk.f k n v t = some true := by
  obtain ⟨h0, h1⟩ := wfu64 hv
  obtain ⟨v, rfl⟩ : ∃ m : Nat, v = m := ⟨v.toNat, by omega⟩
  have hm : t.size ≤ 9223372036854775807 := ht
  refine Ev.rounds ?_
  unfold laws_FnExactConstOk.f laws_szConst.f laws_toConst.f
  rw [w64 (x := 1048576 - (t.size : Int)) (by omega) (by omega)]
  by_cases hs : 1048576 - (t.size : Int) < 0
  · simp only [if_pos hs, Option.bind_some, if_pos (show (-1 : Int) < 0 by omega)]
    exact Ev.now true
  · simp only [if_neg hs, Option.bind_some]
    refine Ev.bind (spec_const n v t (by omega)) ?_
    simp only [impl_const n v t (by omega), Option.bind_some, bne_self_eq_false, Bool.false_eq_true, if_false]
    exact Ev.now true
end Go.Proofs.Ytcnajbnamgohnaa.Pure
