/- At every two numbers the program's Equal and the reference's tell the same. No condition but the statement's own. -/
import Derived.Test.YtkkohiflkhicpaaMFnExactEqualx1
import Derived.Test.YtkkohiflkhicpaaCH
namespace Go.Proofs.Ytkkohiflkhicpaa.Pure
open Go.RowKit Go.Proofs.Ytkkohiflkhicpaa.MFnExactEqual Go.Proofs.YtkkohiflkhicpaaW.PrintWords Go.Proofs.YtkkohiflkhicpaaW.PrintLast Go.Proofs.Ytkkohiflkhicpaa.CB
theorem spec_pow_l0 (n : Nat) (hn : n ≤ 63) : ∀ (d i : Nat), n - i = d → i ≤ n → Ev (fun k => spec_l03Pow.l0 k (n : Int) ((2 ^ i : Nat) : Int) (i : Int)) ((2 ^ n : Nat) : Int) := by
  intro d
  induction d with
  | zero =>
    intro i hd hi
    obtain rfl : i = n := by omega
    exact Ev.step (f := fun _ => some ((2 ^ i : Nat) : Int)) (fun k => by simp only [spec_l03Pow.l0]; rw [if_neg (by omega)]) (Ev.now _)
  | succ d ih =>
    intro i hd hi
    refine Ev.step (fun k => ?_) (ih (i + 1) (by omega) (by omega))
    simp only [spec_l03Pow.l0]
    have hp : 2 ^ (i + 1) ≤ 2 ^ 63 := Nat.pow_le_pow_right (by omega) (by omega)
    rw [if_pos (by omega), wu64, w64 (by omega) (by omega)]
    rw [Nat.pow_succ] at hp
    rw [show ((2 ^ i : Nat) : Int) * 2 % 18446744073709551616 = ((2 ^ (i + 1) : Nat) : Int) by rw [Nat.pow_succ]; omega]
    rfl
theorem spec_pow (n : Nat) (hn : n ≤ 63) : Ev (fun k => spec_l03Pow.f k (n : Int)) ((2 ^ n : Nat) : Int) := by
  unfold spec_l03Pow.f; exact spec_pow_l0 n hn n 0 (by omega) (by omega)
theorem spec_pow63 : Ev (fun k => spec_l03Pow.f k 63) 9223372036854775808 := spec_pow 63 (by omega)
/-- The parts of a number: kind, below, mantissa, exponent. -/
def partsN (x : Nat) : Int × Bool × Int × Int :=
  if 9218868437227405312 < x % 9223372036854775808 then (1, false, 0, 0)
  else if x % 9223372036854775808 = 9218868437227405312 then (2, decide (9223372036854775808 ≤ x), 0, 0)
  else if x % 9223372036854775808 = 0 then (3, decide (9223372036854775808 ≤ x), 0, 0)
  else if x % 9223372036854775808 < 4503599627370496 then (4, decide (9223372036854775808 ≤ x), ((x % 4503599627370496 : Nat) : Int), -1074)
  else (4, decide (9223372036854775808 ≤ x), ((x % 4503599627370496 + 4503599627370496 : Nat) : Int), ((x / 4503599627370496 % 2048 : Nat) : Int) - 1075)
def nanB (x : Nat) : Bool := decide (9218868437227405312 < x % 9223372036854775808)
theorem partsN_kind (x : Nat) : ((partsN x).1 == 1) = nanB x := by
  unfold partsN nanB
  split
  · rename_i h; simp [h]
  · rename_i h; rw [decide_eq_false h]; split
    · rfl
    · split
      · rfl
      · split <;> rfl
/-- The parts of a finite number. -/
theorem parts_fin (x : Nat) (_hx : x < 18446744073709551616) (h : (partsN x).1 = 4) : ∃ (b : Bool) (m : Nat) (e : Int), partsN x = (4, b, (m : Int), e) ∧ m ≠ 0 ∧ m < 9007199254740992 ∧ -1074 ≤ e ∧ e ≤ 971 ∧ (e ≠ -1074 → 4503599627370496 ≤ m) := by
  revert h
  unfold partsN
  split
  · intro h; exact absurd (show (1 : Int) = 4 from h) (by decide)
  · split
    · intro h; exact absurd (show (2 : Int) = 4 from h) (by decide)
    · split
      · intro h; exact absurd (show (3 : Int) = 4 from h) (by decide)
      · split
        · intro _; exact ⟨_, _, _, rfl, by omega, by omega, by omega, by omega, fun h => absurd rfl h⟩
        · intro _; exact ⟨_, _, _, rfl, by omega, by omega, by omega, by omega, fun _ => by omega⟩
theorem spec_parts_j1 (k : Nat) (e f : Int) (b z : Bool) : spec_PartsOfNumber.j1 (k + 1) e f z 0 b 0 0 = if z = true then some (3, b, 0, 0) else if e = 0 then some (4, b, f, (-1074)) else some (4, b, IntKind.u64.wrap (f + 4503599627370496), wrap64 (e - 1075)) := rfl
theorem spec_parts_j0 (k : Nat) (e f : Int) (b z : Bool) : spec_PartsOfNumber.j0 (k + 1) e f z 0 b 0 0 = if z = true then some (1, false, 0, 0) else if e = 2047 then some (2, b, 0, 0) else if e = 0 then spec_PartsOfNumber.j1 k e f (f == 0) 0 b 0 0 else spec_PartsOfNumber.j1 k e f false 0 b 0 0 := rfl
theorem spec_parts (x : Nat) (hx : x < 18446744073709551616) : Ev (fun k => spec_PartsOfNumber.f k (x : Int)) (partsN x) := by
  unfold spec_PartsOfNumber.f
  refine Ev.bind spec_pow63 ?_
  simp only [if_neg (show ¬ (9223372036854775808 : Int) = 0 by omega)]
  have e1 : wrap64 (Int.tmod (IntKind.u64.wrap (Int.tdiv (x : Int) 4503599627370496)) 2048) = ((x / 4503599627370496 % 2048 : Nat) : Int) := by
    rw [wu64, tdivN (Int.natCast_nonneg x), tmodN (by omega), w64 (by omega) (by omega)]; omega
  have e2 : Int.tmod (x : Int) 4503599627370496 = ((x % 4503599627370496 : Nat) : Int) := by rw [tmodN (Int.natCast_nonneg x)]; omega
  have e3 : ((IntKind.u64.wrap (Int.tdiv (x : Int) 9223372036854775808)) == 1) = decide (9223372036854775808 ≤ x) := by
    rw [wu64, tdivN (Int.natCast_nonneg x), Bool.eq_iff_iff]; simp; omega
  rw [e1, e2, e3]
  generalize hb : decide (9223372036854775808 ≤ x) = b
  have hp : partsN x = if 9218868437227405312 < x % 9223372036854775808 then (1, false, 0, 0)
    else if x % 9223372036854775808 = 9218868437227405312 then (2, b, 0, 0)
    else if x % 9223372036854775808 = 0 then (3, b, 0, 0)
    else if x % 9223372036854775808 < 4503599627370496 then (4, b, ((x % 4503599627370496 : Nat) : Int), -1074)
    else (4, b, ((x % 4503599627370496 + 4503599627370496 : Nat) : Int), ((x / 4503599627370496 % 2048 : Nat) : Int) - 1075) := by unfold partsN; rw [hb]
  rw [hp]
  by_cases h1 : x / 4503599627370496 % 2048 = 2047
  · simp only [if_pos (show ((x / 4503599627370496 % 2048 : Nat) : Int) = 2047 by omega)]
    by_cases h2 : x % 4503599627370496 = 0
    · rw [if_neg (by omega), if_pos (by omega)]
      exact Ev.step (f := fun _ => some (2, b, 0, 0)) (fun k => by rw [spec_parts_j0, if_neg (by simp [h2]), if_pos (by omega)]) (Ev.now _)
    · rw [if_pos (by omega)]
      exact Ev.step (f := fun _ => some (1, false, 0, 0)) (fun k => by rw [spec_parts_j0, if_pos (by simp; omega)]) (Ev.now _)
  · simp only [if_neg (show ¬ ((x / 4503599627370496 % 2048 : Nat) : Int) = 2047 by omega)]
    rw [if_neg (by omega), if_neg (by omega)]
    by_cases h2 : x / 4503599627370496 % 2048 = 0
    · refine Ev.step (f := fun k => spec_PartsOfNumber.j1 k ((x / 4503599627370496 % 2048 : Nat) : Int) ((x % 4503599627370496 : Nat) : Int) (((x % 4503599627370496 : Nat) : Int) == 0) 0 b 0 0) (fun k => by rw [spec_parts_j0, if_neg (by simp), if_neg (by omega), if_pos (by omega)]) ?_
      by_cases h3 : x % 4503599627370496 = 0
      · rw [if_pos (by omega)]
        exact Ev.step (f := fun _ => some (3, b, 0, 0)) (fun k => by rw [spec_parts_j1, if_pos (by simp [h3])]) (Ev.now _)
      · rw [if_neg (by omega), if_pos (by omega)]
        exact Ev.step (f := fun _ => some (4, b, ((x % 4503599627370496 : Nat) : Int), -1074)) (fun k => by rw [spec_parts_j1, if_neg (by simp; omega), if_pos (by omega)]) (Ev.now _)
    · refine Ev.step (f := fun k => spec_PartsOfNumber.j1 k ((x / 4503599627370496 % 2048 : Nat) : Int) ((x % 4503599627370496 : Nat) : Int) false 0 b 0 0) (fun k => by rw [spec_parts_j0, if_neg (by simp), if_neg (by omega), if_neg (by omega)]) ?_
      rw [if_neg (by omega), if_neg (by omega)]
      refine Ev.step (f := fun _ => some (4, b, ((x % 4503599627370496 + 4503599627370496 : Nat) : Int), ((x / 4503599627370496 % 2048 : Nat) : Int) - 1075)) (fun k => ?_) (Ev.now _)
      rw [spec_parts_j1, if_neg (by simp), if_neg (by omega), wu64, w64 (by omega) (by omega), show (((x % 4503599627370496 : Nat) : Int) + 4503599627370496) % 18446744073709551616 = ((x % 4503599627370496 + 4503599627370496 : Nat) : Int) by omega]
theorem spec_nan (x : Nat) (hx : x < 18446744073709551616) : Ev (fun k => spec_l03Nan.f k (x : Int)) (nanB x) := by
  unfold spec_l03Nan.f
  refine Ev.bind (spec_parts x hx) ?_
  rw [partsN_kind]
  exact Ev.now _
section
open Go.Proofs.Ytkkohiflkhicpaa.CR Go.Proofs.Ytkkohiflkhicpaa.CF Go.Proofs.Ytkkohiflkhicpaa.CG Go.Proofs.Ytkkohiflkhicpaa.CH
theorem spec_key (x : Nat) (hx : x < 18446744073709551616) : Ev (fun k => spec_l03Key.f k (x : Int)) (keyI x) := by
  unfold spec_l03Key.f keyI
  refine Ev.bind spec_pow63 ?_
  by_cases h : 9223372036854775808 ≤ x
  · rw [if_pos h]
    refine Ev.congr (f := fun k => (spec_l03Pow.f k 63).bind fun t109 => (some (wrap64 (-(wrap64 (IntKind.u64.wrap ((x : Int) - t109))))))) (fun k => by rw [if_pos (by omega)]) (Ev.bind spec_pow63 ?_)
    rw [wu64, w64 (x := ((x : Int) - 9223372036854775808) % 18446744073709551616) (by omega) (by omega), w64 (by omega) (by omega)]
    rw [show -(((x : Int) - 9223372036854775808) % 18446744073709551616) = -((x - 9223372036854775808 : Nat) : Int) by omega]
    exact Ev.now _
  · rw [if_neg h]
    refine Ev.congr (f := fun _ => some (x : Int)) (fun k => by rw [if_neg (by omega), w64 (by omega) (by omega)]) (Ev.now _)
theorem nan_CH (x : Nat) : Go.Proofs.Ytkkohiflkhicpaa.CH.nanB x = nanB x := rfl
theorem cmp_eq (a b : Int) : (some (compare a b) == some Ordering.eq) = (a == b) := by
  rcases Int.lt_trichotomy a b with h | h | h
  · rw [Int.compare_eq_lt.2 h, show (a == b) = false by simp; omega]; rfl
  · rw [Int.compare_eq_eq.2 h, show (a == b) = true by simp; omega]; rfl
  · rw [Int.compare_eq_gt.2 h, show (a == b) = false by simp; omega]; rfl
theorem cmp_lt (a b : Int) : (some (compare a b) == some Ordering.lt) = decide (a < b) := by
  rcases Int.lt_trichotomy a b with h | h | h
  · rw [Int.compare_eq_lt.2 h, decide_eq_true h]; rfl
  · rw [Int.compare_eq_eq.2 h, decide_eq_false (by omega)]; rfl
  · rw [Int.compare_eq_gt.2 h, decide_eq_false (by omega)]; rfl
end
theorem inU_nat (a : Nat) (h : a < 18446744073709551616) : Go.Proofs.Ytkkohiflkhicpaa.G.inU64 (a : Int) = true := by
  unfold Go.Proofs.Ytkkohiflkhicpaa.G.inU64
  rw [decide_eq_true (by omega), decide_eq_true (by omega)]; rfl
section
open Go.Proofs.Ytkkohiflkhicpaa.CR Go.Proofs.Ytkkohiflkhicpaa.CF Go.Proofs.Ytkkohiflkhicpaa.CG Go.Proofs.Ytkkohiflkhicpaa.CH
def eqT (x y : Nat) : Bool := Ieee.double.order x y == some .eq
theorem impl_Equal_eq (a b : Nat) (ha : a < 18446744073709551616) (hb : b < 18446744073709551616) : impl_Equal.f (a : Int) (b : Int) = some (eqT a b) := by
  unfold impl_Equal.f Go.Proofs.Ytkkohiflkhicpaa.G.impl_Equal
  rw [if_pos (inU_nat a ha), if_pos (inU_nat b hb), Int.toNat_natCast, Int.toNat_natCast]; rfl
theorem spec_Equal_eq (x y : Nat) (hx : x < 18446744073709551616) (hy : y < 18446744073709551616) : Ev (fun k => spec_Equal.f k (x : Int) (y : Int)) (eqT x y) := by
  unfold spec_Equal.f eqT
  rw [order_eq x y hx hy]
  refine Ev.bind (spec_nan x hx) ?_
  rw [nan_CH, nan_CH]
  by_cases h : nanB x = true
  · rw [if_pos (.inl h)]
    simp only [if_pos h]
    exact Ev.now _
  · simp only [if_neg h]
    refine Ev.bind (spec_nan y hy) ?_
    by_cases h2 : nanB y = true
    · rw [if_pos (.inr h2)]
      simp only [if_pos h2]
      exact Ev.now _
    · rw [if_neg (by simp only [h, h2]; simp)]
      simp only [if_neg h2]
      refine Ev.bind (spec_key x hx) (Ev.bind (spec_key y hy) ?_)
      rw [cmp_eq]
      exact Ev.now _
end
theorem FnExactEqual : laws_FnExactEqual.Pure := by
  intro a b ha hb
  obtain ⟨h0, h1⟩ := wfu64 ha
  obtain ⟨h2, h3⟩ := wfu64 hb
  obtain ⟨a, rfl⟩ : ∃ n : Nat, a = n := ⟨a.toNat, by omega⟩
  obtain ⟨b, rfl⟩ : ∃ n : Nat, b = n := ⟨b.toNat, by omega⟩
  unfold laws_FnExactEqual.f
  refine Ev.rounds (Ev.bind (spec_Equal_eq a b (by omega) (by omega)) ?_)
  rw [impl_Equal_eq a b (by omega) (by omega)]
  simp only [Option.bind_some, bne_self_eq_false, Bool.false_eq_true, if_false]
  exact Ev.now true
end Go.Proofs.Ytkkohiflkhicpaa.Pure
