/- Whole numbers up to 2^53 are told just; ToInt32 of one is it modulo 2^32; Less orders them. No condition but the statement's own. -/
import Derived.Test.YtkkohiflkhicpaaMFnWholesx2
import Derived.Test.YtkkohiflkhicpaaCN
namespace Go.Proofs.Ytkkohiflkhicpaa.Pure
open Go.RowKit Go.Proofs.Ytkkohiflkhicpaa.MFnWholes Go.Proofs.YtkkohiflkhicpaaW.PrintWords Go.Proofs.YtkkohiflkhicpaaW.PrintLast Go.Proofs.Ytkkohiflkhicpaa.CB
/-- The eight lowest bits. -/
theorem and_low255 (x : Int) : 0 ≤ Go.bits .and .i64 x 255 ∧ Go.bits .and .i64 x 255 ≤ 255 := by
  have e : Go.bits .and .i64 x 255 = wrap64 (((BitVec.ofInt 64 x).toNat &&& 255 : Nat) : Int) := by
    simp only [Go.bits, wi64]
    show wrap64 (((BitVec.ofInt 64 x &&& BitVec.ofInt 64 255).toNat : Int)) = _
    rw [BitVec.toNat_and]
    rfl
  have h : (BitVec.ofInt 64 x).toNat &&& 255 ≤ 255 := Nat.and_le_right
  rw [e, w64 (by omega) (by omega)]
  omega
/-- One byte drawn. -/
theorem spec_byte (l : List Int) (i h : Int) (hl : l.length ≤ 140737488351232) (hi : 0 ≤ i) : ∃ v i' h', spec_l01Byte.f l i h = some (v, i', h') ∧ (0 ≤ v ∧ v ≤ 255) ∧ 0 ≤ i' := by
  unfold spec_l01Byte.f
  by_cases h1 : i < (l.length : Int)
  · rw [if_pos h1, if_pos hi]
    refine ⟨_, _, _, rfl, and_low255 _, ?_⟩
    rw [w64 (by omega) (by omega)]
    omega
  · rw [if_neg h1]
    exact ⟨_, _, _, rfl, and_low255 _, hi⟩
/-- A number below a bound drawn. -/
theorem spec_below (l : List Int) (i h n : Int) (hl : l.length ≤ 140737488351232) (hi : 0 ≤ i) (hn : 0 < n) : ∃ v i' h', spec_l01Below.f l i h n = some (v, i', h') ∧ (0 ≤ v ∧ v < n) ∧ 0 ≤ i' := by
  unfold spec_l01Below.f
  rw [if_neg (by omega)]
  by_cases h1 : n ≤ 256
  · rw [if_pos h1]
    obtain ⟨v, i', h', e, hv, hi'⟩ := spec_byte l i h hl hi
    rw [e]
    simp only [Option.bind_some]
    rw [if_neg (by omega), tmodN hv.1]
    exact ⟨_, _, _, rfl, ⟨Int.emod_nonneg _ (by omega), Int.emod_lt_of_pos _ hn⟩, hi'⟩
  · rw [if_neg h1]
    obtain ⟨v1, i1, h1, e1, r1, p1⟩ := spec_byte l i h hl hi
    obtain ⟨v2, i2, h2, e2, r2, p2⟩ := spec_byte l i1 h1 hl p1
    obtain ⟨v3, i3, h3, e3, r3, p3⟩ := spec_byte l i2 h2 hl p2
    obtain ⟨v4, i4, h4, e4, r4, p4⟩ := spec_byte l i3 h3 hl p3
    rw [e1]
    simp only [Option.bind_some]
    rw [e2]
    simp only [Option.bind_some]
    rw [e3]
    simp only [Option.bind_some]
    rw [e4]
    simp only [Option.bind_some]
    rw [if_neg (by omega), w64 (x := v1 * 16777216) (by omega) (by omega), w64 (x := v2 * 65536) (by omega) (by omega), w64 (x := v3 * 256) (by omega) (by omega), w64 (x := v1 * 16777216 + v2 * 65536) (by omega) (by omega), w64 (x := v1 * 16777216 + v2 * 65536 + v3 * 256) (by omega) (by omega), w64 (by omega) (by omega), tmodN (by omega)]
    exact ⟨_, _, _, rfl, ⟨Int.emod_nonneg _ (by omega), Int.emod_lt_of_pos _ hn⟩, p4⟩
theorem spec_new_l0 (l : List Int) (_hl : l.length ≤ 140737488351232) : ∀ (d i : Nat) (x : Int), 4000 - i = d → i ≤ 4000 → ∃ h, Ev (fun k => spec_l01New.l0 k l x (i : Int)) (l, 0, h) := by
  have hr : ∀ (k i : Nat) (x : Int), spec_l01New.l0 (k + 1) l x (i : Int) = if (i : Int) < (l.length : Int) then (if (i : Int) < 4000 then (if 0 ≤ (i : Int) then (spec_l01New.l0 k l (Go.bits .and .i64 (wrap64 ((wrap64 ((wrap64 (x * 131)) + (wrap64 (rd l i)))) + 7)) 1073741823) (wrap64 ((i : Int) + 1))) else (none)) else (some (l, 0, x))) else (some (l, 0, x)) := fun _ _ _ => rfl
  intro d
  induction d with
  | zero =>
    intro i x hd hi
    refine ⟨x, Ev.step (f := fun _ => some (l, 0, x)) (fun k => ?_) (Ev.now _)⟩
    rw [hr]
    split
    · rw [if_neg (by omega)]
    · rfl
  | succ d ih =>
    intro i x hd hi
    by_cases h1 : i < l.length
    · obtain ⟨h, e⟩ := ih (i + 1) (Go.bits .and .i64 (wrap64 ((wrap64 ((wrap64 (x * 131)) + (wrap64 (rd l i)))) + 7)) 1073741823) (by omega) (by omega)
      exact ⟨h, Ev.step (fun k => by rw [hr, if_pos (by omega), if_pos (by omega), if_pos (by omega), w64s (by omega)]) e⟩
    · exact ⟨x, Ev.step (f := fun _ => some (l, 0, x)) (fun k => by rw [hr, if_neg (by omega)]) (Ev.now _)⟩
/-- A source of draws made. -/
theorem spec_new (l : List Int) (hl : l.length ≤ 140737488351232) : ∃ h, Ev (fun k => spec_l01New.f k l) (l, 0, h) := spec_new_l0 l hl 4000 0 _ (by omega) (by omega)
theorem spec_places_l0 (l : List Int) (hl : l.length ≤ 140737488351232) : ∀ (d j : Nat) (T : List Int) (i h : Int), 12 - j = d → j ≤ 12 → T.length = j → (∀ x ∈ T, 0 ≤ x ∧ x < 10000) → 0 ≤ i →
    ∃ L : List Int, Ev (fun k => spec_DrawPlaces.l0 k T (j : Int) l i h) L ∧ L.length = 12 ∧ (∀ x ∈ L, 0 ≤ x ∧ x < 10000) := by
  have hr : ∀ (k j : Nat) (T : List Int) (i h : Int), spec_DrawPlaces.l0 (k + 1) T (j : Int) l i h = if (j : Int) < 12 then ((spec_l01Below.f l i h 10000).bind fun bt277 => (if T.length < 17592186044416 then (spec_DrawPlaces.l0 k (T ++ [bt277.1]) (wrap64 ((j : Int) + 1)) l bt277.2.1 bt277.2.2) else (none))) else (some T) := fun _ _ _ _ _ => rfl
  intro d
  induction d with
  | zero =>
    intro j T i h hd hj hT h9 hi
    exact ⟨T, Ev.step (f := fun _ => some T) (fun k => by rw [hr, if_neg (by omega)]) (Ev.now _), by omega, h9⟩
  | succ d ih =>
    intro j T i h hd hj hT h9 hi
    obtain ⟨v, i1, h1, e1, r1, p1⟩ := spec_below l i h 10000 hl hi (by omega)
    obtain ⟨L, e, r⟩ := ih (j + 1) (T ++ [v]) i1 h1 (by omega) (by omega) (by simp; omega) (by
      intro c hc
      rcases List.mem_append.1 hc with h2 | h2
      · exact h9 c h2
      · rw [List.mem_singleton.1 h2]; exact r1) p1
    refine ⟨L, Ev.step (fun k => ?_) e, r⟩
    rw [hr, if_pos (by omega), e1]
    simp only [Option.bind_some]
    rw [if_pos (by omega), w64s (by omega)]
/-- Twelve places drawn. -/
theorem spec_places (l : List Int) (hl : l.length ≤ 140737488351232) : ∃ L : List Int, Ev (fun k => spec_DrawPlaces.f k l) L ∧ L.length = 12 ∧ (∀ x ∈ L, 0 ≤ x ∧ x < 10000) := by
  obtain ⟨h, e⟩ := spec_new l hl
  obtain ⟨v, i1, h1, e1, _, p1⟩ := spec_byte l 0 h hl (by omega)
  obtain ⟨L, e2, r⟩ := spec_places_l0 l hl 12 0 [] i1 h1 (by omega) (by omega) rfl (by simp) p1
  refine ⟨L, ?_, r⟩
  unfold spec_DrawPlaces.f
  refine Ev.bind e ?_
  simp only [e1, Option.bind_some]
  exact e2
/-- The parts of a number: kind, below, mantissa, exponent. -/
def partsN (x : Nat) : Int × Bool × Int × Int :=
  if 9218868437227405312 < x % 9223372036854775808 then (1, false, 0, 0)
  else if x % 9223372036854775808 = 9218868437227405312 then (2, decide (9223372036854775808 ≤ x), 0, 0)
  else if x % 9223372036854775808 = 0 then (3, decide (9223372036854775808 ≤ x), 0, 0)
  else if x % 9223372036854775808 < 4503599627370496 then (4, decide (9223372036854775808 ≤ x), ((x % 4503599627370496 : Nat) : Int), -1074)
  else (4, decide (9223372036854775808 ≤ x), ((x % 4503599627370496 + 4503599627370496 : Nat) : Int), ((x / 4503599627370496 % 2048 : Nat) : Int) - 1075)
def nanB (x : Nat) : Bool := decide (9218868437227405312 < x % 9223372036854775808)
theorem partsN_kind (x : Nat) : ((partsN x).1 == 1) = nanB x := by
  unfold partsN nanB
  split
  · rename_i h; simp [h]
  · rename_i h; rw [decide_eq_false h]; split
    · rfl
    · split
      · rfl
      · split <;> rfl
/-- The parts of a finite number. -/
theorem parts_fin (x : Nat) (_hx : x < 18446744073709551616) (h : (partsN x).1 = 4) : ∃ (b : Bool) (m : Nat) (e : Int), partsN x = (4, b, (m : Int), e) ∧ m ≠ 0 ∧ m < 9007199254740992 ∧ -1074 ≤ e ∧ e ≤ 971 ∧ (e ≠ -1074 → 4503599627370496 ≤ m) := by
  revert h
  unfold partsN
  split
  · intro h; exact absurd (show (1 : Int) = 4 from h) (by decide)
  · split
    · intro h; exact absurd (show (2 : Int) = 4 from h) (by decide)
    · split
      · intro h; exact absurd (show (3 : Int) = 4 from h) (by decide)
      · split
        · intro _; exact ⟨_, _, _, rfl, by omega, by omega, by omega, by omega, fun h => absurd rfl h⟩
        · intro _; exact ⟨_, _, _, rfl, by omega, by omega, by omega, by omega, fun _ => by omega⟩
/-- A number's parts by what it stands for. -/
def partsR (d : Ieee.Datum) : Int × Bool × Int × Int := match d with | .nan _ _ => (1, false, 0, 0) | .infinity b => (2, b, 0, 0) | .number b m e => if m = 0 then (3, b, 0, 0) else (4, b, (m : Int), e)
open Go.Proofs.Ytkkohiflkhicpaa.CG in
theorem parts_read (x : Nat) (hx : x < 18446744073709551616) : partsN x = partsR (Ieee.double.read x) := by
  rw [read_def x hx]
  unfold partsN sgn
  by_cases h1 : 9218868437227405312 < x % 9223372036854775808
  · rw [if_pos h1, if_neg (by omega), if_neg (by omega), if_neg (by omega)]; rfl
  · rw [if_neg h1]
    by_cases h2 : x % 9223372036854775808 = 9218868437227405312
    · rw [if_pos h2, if_neg (by omega), if_neg (by omega), if_pos h2]; rfl
    · rw [if_neg h2]
      by_cases h3 : x % 9223372036854775808 = 0
      · rw [if_pos h3, if_pos (by omega), h3]; rfl
      · rw [if_neg h3]
        by_cases h4 : x % 9223372036854775808 < 4503599627370496
        · rw [if_pos h4, if_pos h4]
          unfold partsR
          simp only [if_neg h3]
          rw [show x % 9223372036854775808 = x % 4503599627370496 by omega]
        · rw [if_neg h4, if_neg h4, if_pos (by omega)]
          unfold partsR
          simp only [if_neg (show ¬ 4503599627370496 + x % 4503599627370496 = 0 by omega)]
          rw [Nat.add_comm 4503599627370496]
theorem impl_nan (x : Nat) (hx : x < 18446744073709551616) : impl_isNaN.f (x : Int) = some (nanB x) := by
  unfold impl_isNaN.f nanB
  rw [and63 x hx]
  congr 1
  rw [decide_eq_decide]; omega
theorem impl_parts (x : Nat) (hx : x < 18446744073709551616) : Ev (fun k => impl_PartsOfNumber.f k (x : Int)) (partsN x) := by
  unfold impl_PartsOfNumber.f
  rw [impl_nan x hx]
  simp only [Option.bind_some]
  have e1 : wrap64 (Go.bits .and .u64 ((x : Int) / 4503599627370496) 2047) = ((x / 4503599627370496 % 2048 : Nat) : Int) := by
    have h1 := and_u64 (x / 4503599627370496) 2047 (by omega) (by omega)
    rw [show (x / 4503599627370496) &&& 2047 = x / 4503599627370496 % 2048 from mask _ 11] at h1
    rw [show (x : Int) / 4503599627370496 = ((x / 4503599627370496 : Nat) : Int) by omega]
    have h2 : Go.bits .and .u64 (((x / 4503599627370496 : Nat) : Int)) 2047 = ((x / 4503599627370496 % 2048 : Nat) : Int) := h1
    rw [h2, w64 (by omega) (by omega)]
  have e2 : Go.bits .and .u64 (x : Int) 4503599627370495 = ((x % 4503599627370496 : Nat) : Int) := by
    have h1 := and_u64 x 4503599627370495 hx (by omega)
    rw [show x &&& 4503599627370495 = x % 4503599627370496 from mask _ 52] at h1
    exact h1
  have e3 : (((x : Int) / 9223372036854775808) == 1) = decide (9223372036854775808 ≤ x) := by rw [Bool.eq_iff_iff]; simp; omega
  rw [e1, e2, e3]
  generalize hb : decide (9223372036854775808 ≤ x) = b
  have hp : partsN x = if 9218868437227405312 < x % 9223372036854775808 then (1, false, 0, 0)
    else if x % 9223372036854775808 = 9218868437227405312 then (2, b, 0, 0)
    else if x % 9223372036854775808 = 0 then (3, b, 0, 0)
    else if x % 9223372036854775808 < 4503599627370496 then (4, b, ((x % 4503599627370496 : Nat) : Int), -1074)
    else (4, b, ((x % 4503599627370496 + 4503599627370496 : Nat) : Int), ((x / 4503599627370496 % 2048 : Nat) : Int) - 1075) := by unfold partsN; rw [hb]
  rw [hp]
  have hj : ∀ (k : Nat) (f e : Int) (z : Bool), impl_PartsOfNumber.j0 (k + 1) b f e z = if z = true then (some (3, b, 0, 0)) else (if e = 0 then (some (4, b, f, (-1074))) else (some (4, b, Go.bits .or .u64 f 4503599627370496, wrap64 (e - 1075)))) := fun _ _ _ _ => rfl
  by_cases h0 : 9218868437227405312 < x % 9223372036854775808
  · have : nanB x = true := decide_eq_true h0
    rw [if_pos h0]
    simp only [this, if_true]
    exact Ev.now _
  · have : nanB x = false := decide_eq_false h0
    rw [if_neg h0]
    simp only [this, Bool.false_eq_true, if_false]
    by_cases h1 : x / 4503599627370496 % 2048 = 2047
    · simp only [if_pos (show ((x / 4503599627370496 % 2048 : Nat) : Int) = 2047 by omega)]
      rw [if_pos (by omega)]
      exact Ev.now _
    · simp only [if_neg (show ¬ ((x / 4503599627370496 % 2048 : Nat) : Int) = 2047 by omega)]
      rw [if_neg (by omega)]
      by_cases h2 : x / 4503599627370496 % 2048 = 0
      · simp only [if_pos (show ((x / 4503599627370496 % 2048 : Nat) : Int) = 0 by omega)]
        by_cases h3 : x % 4503599627370496 = 0
        · rw [if_pos (by omega)]
          exact Ev.step (f := fun _ => some (3, b, 0, 0)) (fun k => by rw [hj, if_pos (by simp [h3])]) (Ev.now _)
        · rw [if_neg (by omega), if_pos (by omega)]
          exact Ev.step (f := fun _ => some (4, b, ((x % 4503599627370496 : Nat) : Int), -1074)) (fun k => by rw [hj, if_neg (by simp; omega), if_pos (by omega)]) (Ev.now _)
      · simp only [if_neg (show ¬ ((x / 4503599627370496 % 2048 : Nat) : Int) = 0 by omega)]
        rw [if_neg (by omega), if_neg (by omega)]
        refine Ev.step (f := fun _ => some (4, b, ((x % 4503599627370496 + 4503599627370496 : Nat) : Int), ((x / 4503599627370496 % 2048 : Nat) : Int) - 1075)) (fun k => ?_) (Ev.now _)
        have e4 : Go.bits .or .u64 ((x % 4503599627370496 : Nat) : Int) 4503599627370496 = ((x % 4503599627370496 + 4503599627370496 : Nat) : Int) := by
          have h4 := or_u64 (x % 4503599627370496) 4503599627370496 (by omega) (by omega)
          have h5 := join 1 (x % 4503599627370496) 52 (by omega)
          rw [Nat.or_comm, show (2 ^ 52 * 1 : Nat) = 4503599627370496 from rfl] at h5
          rw [h5, Nat.add_comm] at h4
          exact h4
        rw [hj, if_neg (by simp), if_neg (by omega), e4, w64 (by omega) (by omega)]
theorem shl_one (d : Nat) (h : d < 64) : shl .u64 1 (d : Int) = ((2 ^ d : Nat) : Int) := by
  unfold shl
  have hmin : min ((d : Int)).toNat IntKind.u64.bits = d := by
    rw [Int.toNat_natCast]
    show min d 64 = d
    omega
  have hp : 2 ^ d ≤ 2 ^ 63 := Nat.pow_le_pow_right (by omega) (by omega)
  rw [hmin, wu64, Int.one_mul, show ((2 : Int) ^ d) = ((2 ^ d : Nat) : Int) by rw [Int.natCast_pow]; rfl]
  generalize 2 ^ d = p at *
  omega
theorem shl_u64 (M d : Nat) (hd : d ≤ 64) (h : M * 2 ^ d < 18446744073709551616) : shl .u64 (M : Int) (d : Int) = ((M * 2 ^ d : Nat) : Int) := by
  unfold shl
  have hmin : min ((d : Int)).toNat IntKind.u64.bits = d := by
    rw [Int.toNat_natCast]
    show min d 64 = d
    omega
  rw [hmin, wu64, show (M : Int) * ((2 : Int) ^ d) = ((M * 2 ^ d : Nat) : Int) by rw [Int.natCast_mul, Int.natCast_pow]; rfl]
  generalize M * 2 ^ d = p at *
  omega
theorem shr_u64 (M d : Nat) (hd : d ≤ 64) : shr .u64 (M : Int) (d : Int) = ((M / 2 ^ d : Nat) : Int) := by
  unfold shr
  have hmin : min ((d : Int)).toNat IntKind.u64.bits = d := by
    rw [Int.toNat_natCast]
    show min d 64 = d
    omega
  rw [hmin, Int.natCast_ediv, Int.natCast_pow]; rfl
theorem and_low (M d : Nat) (hM : M < 18446744073709551616) (hd : d < 64) : Go.bits .and .u64 (M : Int) (IntKind.u64.wrap (shl .u64 1 (d : Int) - 1)) = ((M % 2 ^ d : Nat) : Int) := by
  rw [shl_one d hd]
  have hp : 2 ^ d ≤ 2 ^ 63 := Nat.pow_le_pow_right (by omega) (by omega)
  have hp0 : 0 < 2 ^ d := Nat.pow_pos (by omega)
  have e : IntKind.u64.wrap (((2 ^ d : Nat) : Int) - 1) = ((2 ^ d - 1 : Nat) : Int) := by
    rw [wu64]
    generalize 2 ^ d = p at *
    omega
  have hb : 2 ^ d - 1 < 18446744073709551616 := by
    generalize 2 ^ d = p at *
    omega
  rw [e, and_u64 M (2 ^ d - 1) hM hb, mask]
theorem and_one (M : Nat) (hM : M < 18446744073709551616) : Go.bits .and .u64 (M : Int) 1 = ((M % 2 : Nat) : Int) := by
  have h1 := and_u64 M 1 hM (by omega)
  rw [show M &&& 1 = M % 2 from mask M 1] at h1
  exact h1
/-- A value with its sign, modulo 2^32, about 0. -/
def toIn (n : Nat) : Int := if n ≥ 2147483648 then (n : Int) - 4294967296 else n
def toI (b : Bool) (V : Nat) : Int := toIn (if b then (4294967296 - V % 4294967296) % 4294967296 else V % 4294967296)
/-- The whole part of a number of parts. -/
def wholeV (m : Nat) (e : Int) : Nat := if e < 0 then m / 2 ^ (-e).toNat else m * 2 ^ e.toNat
/-- What ToInt32 tells. -/
def toInt32T (x : Nat) : Int := if (partsN x).1 = 4 then toI (partsN x).2.1 (wholeV (partsN x).2.2.1.toNat (partsN x).2.2.2) else 0
theorem toI_mod (b : Bool) (u v : Nat) (h : u % 4294967296 = v % 4294967296) : toI b u = toI b v := by unfold toI; rw [h]
theorem mul_mod (p m u : Nat) (h : p * u % m = 0) (q : Nat) : p * (u * q) % m = 0 := by
  rw [← Nat.mul_assoc, Nat.mul_mod, h]; simp
theorem impl_ti_end (b : Bool) (V : Nat) (_hV : V < 18446744073709551616) : (if b = true then (some (wrap64 (wrap32 ((IntKind.u64.wrap (-(V : Int))) % 4294967296)))) else (some (wrap64 (wrap32 ((V : Int) % 4294967296))))) = some (toI b V) := by
  unfold toI toIn wrap32
  rw [wu64]
  cases b
  · simp only [Bool.false_eq_true, if_false]
    rw [w64 (by omega) (by omega)]
    refine congrArg some ?_
    by_cases h : V % 4294967296 ≥ 2147483648
    · rw [if_pos h]; omega
    · rw [if_neg h]; omega
  · simp only [if_true]
    rw [w64 (by omega) (by omega)]
    refine congrArg some ?_
    by_cases h : (4294967296 - V % 4294967296) % 4294967296 ≥ 2147483648
    · rw [if_pos h]; omega
    · rw [if_neg h]; omega
theorem impl_toInt32 (x : Nat) (hx : x < 18446744073709551616) : Ev (fun k => impl_ToInt32.f k (x : Int)) (toInt32T x) := by
  unfold impl_ToInt32.f toInt32T
  refine Ev.bind (impl_parts x hx) ?_
  have hj : ∀ (k : Nat) (x4 : Int) (z : Bool) (a : Int) (b : Bool) (c d : Int), impl_ToInt32.j0 (k + 1) x4 z a b c d = if z = true then (if b = true then (some (wrap64 (wrap32 ((IntKind.u64.wrap (-x4)) % 4294967296)))) else (some (wrap64 (wrap32 ((x4) % 4294967296))))) else (if d ≥ 0 then (if 0 ≤ d then (if b = true then (some (wrap64 (wrap32 ((IntKind.u64.wrap (-(shl .u64 c d))) % 4294967296)))) else (some (wrap64 (wrap32 ((shl .u64 c d) % 4294967296))))) else (none)) else (if 0 ≤ (wrap64 (-d)) then (if b = true then (some (wrap64 (wrap32 ((IntKind.u64.wrap (-(shr .u64 c (wrap64 (-d))))) % 4294967296)))) else (some (wrap64 (wrap32 ((shr .u64 c (wrap64 (-d))) % 4294967296))))) else (none))) := fun _ _ _ _ _ _ _ => rfl
  have hz : ∀ (a : Int) (b : Bool) (c d : Int), Ev (fun k => impl_ToInt32.j0 k 0 true a b c d) (toI b 0) := by
    intro a b c d
    refine Ev.step (f := fun _ => some (toI b 0)) (fun k => ?_) (Ev.now _)
    rw [hj, if_pos rfl]
    exact impl_ti_end b 0 (by omega)
  by_cases h : (partsN x).1 = 4
  · obtain ⟨b, m, e, hp, hm0, hm, he1, he2, _⟩ := parts_fin x hx h
    rw [hp]
    simp only [if_true]
    unfold wholeV
    rw [Int.toNat_natCast]
    by_cases h1 : e > 31
    · simp only [if_pos h1, if_neg (show ¬ e < 0 by omega)]
      have : toI b (m * 2 ^ e.toNat) = toI b 0 := by
        apply toI_mod
        obtain ⟨r, hr⟩ : ∃ r, e.toNat = 32 + r := ⟨e.toNat - 32, by omega⟩
        rw [hr, Nat.pow_add]
        have h2 : m * 2 ^ 32 % 4294967296 = 0 := by rw [show (2 : Nat) ^ 32 = 4294967296 from rfl]; exact Nat.mul_mod_left _ _
        rw [← Nat.mul_assoc, Nat.mul_mod, h2]; simp
      rw [this]
      exact hz 4 b m e
    · simp only [if_neg h1]
      by_cases h2 : e < -63
      · rw [decide_eq_true h2, if_pos (by omega)]
        have : m / 2 ^ (-e).toNat = 0 := Nat.div_eq_of_lt (Nat.lt_of_lt_of_le hm (Nat.le_trans (show 9007199254740992 ≤ 2 ^ 53 from Nat.le_refl _) (Nat.pow_le_pow_right (by omega) (by omega))))
        rw [this]
        exact hz 4 b m e
      · rw [decide_eq_false h2]
        by_cases h3 : e < 0
        · rw [if_pos h3]
          refine Ev.step (f := fun _ => some (toI b (m / 2 ^ (-e).toNat))) (fun k => ?_) (Ev.now _)
          have hs := shr_u64 m (-e).toNat (by omega)
          rw [show (((-e).toNat : Nat) : Int) = -e by omega] at hs
          rw [hj, if_neg (by simp), if_neg (by omega), w64 (x := -e) (by omega) (by omega), if_pos (by omega), hs]
          exact impl_ti_end b _ (Nat.lt_of_le_of_lt (Nat.div_le_self _ _) (by omega))
        · rw [if_neg h3]
          have hlt : m * 2 ^ e.toNat < 2 ^ 84 + 1 ∧ toI b (m * 2 ^ e.toNat) = toI b (m * 2 ^ e.toNat % 18446744073709551616) := by
            constructor
            · have : m * 2 ^ e.toNat ≤ 2 ^ 53 * 2 ^ 31 := Nat.mul_le_mul (Nat.le_of_lt hm) (Nat.pow_le_pow_right (by omega) (by omega))
              omega
            · apply toI_mod
              generalize m * 2 ^ e.toNat = p
              omega
          refine Ev.step (f := fun _ => some (toI b (m * 2 ^ e.toNat))) (fun k => ?_) (Ev.now _)
          have hs : shl .u64 (m : Int) e = ((m * 2 ^ e.toNat % 18446744073709551616 : Nat) : Int) := by
            unfold shl
            have hmin : min e.toNat IntKind.u64.bits = e.toNat := by
              show min e.toNat 64 = e.toNat
              omega
            rw [hmin, wu64, show (m : Int) * ((2 : Int) ^ e.toNat) = ((m * 2 ^ e.toNat : Nat) : Int) by rw [Int.natCast_mul, Int.natCast_pow]; rfl]
            omega
          rw [hj, if_neg (by simp), if_pos (by omega), if_pos (by omega), hs, hlt.2]
          exact impl_ti_end b _ (Nat.mod_lt _ (by omega))
  · simp only [if_neg h]
    have h4 : ∀ b : Bool, toI b 0 = 0 := by intro b; cases b <;> rfl
    have := hz (partsN x).1 (partsN x).2.1 (partsN x).2.2.1 (partsN x).2.2.2
    rw [h4] at this
    exact this
theorem impl_truthy (x : Nat) (hx : x < 18446744073709551616) : Ev (fun k => impl_Truthy.f k (x : Int)) ((partsN x).1 == 2 || (partsN x).1 == 4) := by
  unfold impl_Truthy.f
  refine Ev.bind (impl_parts x hx) ?_
  by_cases h : (partsN x).1 = 2
  · rw [h]; exact Ev.now _
  · simp only [if_neg h]
    rw [show ((partsN x).1 == 2) = false by simpa using h]
    exact Ev.now _
/-- What FromInt tells. -/
def fromI (n : Int) : Nat := Ieee.double.nearest (decide (n < 0)) n.natAbs 0
theorem impl_FromInt_eq (n : Int) : impl_FromInt.f n = some ((fromI n : Nat) : Int) := rfl
theorem inU_nat (a : Nat) (h : a < 18446744073709551616) : Go.Proofs.Ytkkohiflkhicpaa.G.inU64 (a : Int) = true := by
  unfold Go.Proofs.Ytkkohiflkhicpaa.G.inU64
  rw [decide_eq_true (by omega), decide_eq_true (by omega)]; rfl
section
def eqT (x y : Nat) : Bool := Ieee.double.order x y == some .eq
theorem impl_Equal_eq (a b : Nat) (ha : a < 18446744073709551616) (hb : b < 18446744073709551616) : impl_Equal.f (a : Int) (b : Int) = some (eqT a b) := by
  unfold impl_Equal.f Go.Proofs.Ytkkohiflkhicpaa.G.impl_Equal
  rw [if_pos (inU_nat a ha), if_pos (inU_nat b hb), Int.toNat_natCast, Int.toNat_natCast]; rfl
end
section
def ltT (x y : Nat) : Bool := Ieee.double.order x y == some .lt
theorem impl_Less_eq (a b : Nat) (ha : a < 18446744073709551616) (hb : b < 18446744073709551616) : impl_Less.f (a : Int) (b : Int) = some (ltT a b) := by
  unfold impl_Less.f Go.Proofs.Ytkkohiflkhicpaa.G.impl_Less
  rw [if_pos (inU_nat a ha), if_pos (inU_nat b hb), Int.toNat_natCast, Int.toNat_natCast]; rfl
end
theorem nan_CH (x : Nat) : Go.Proofs.Ytkkohiflkhicpaa.CH.nanB x = nanB x := rfl
theorem cmp_eq (a b : Int) : (some (compare a b) == some Ordering.eq) = (a == b) := by
  rcases Int.lt_trichotomy a b with h | h | h
  · rw [Int.compare_eq_lt.2 h, show (a == b) = false by simp; omega]; rfl
  · rw [Int.compare_eq_eq.2 h, show (a == b) = true by simp; omega]; rfl
  · rw [Int.compare_eq_gt.2 h, show (a == b) = false by simp; omega]; rfl
theorem cmp_lt (a b : Int) : (some (compare a b) == some Ordering.lt) = decide (a < b) := by
  rcases Int.lt_trichotomy a b with h | h | h
  · rw [Int.compare_eq_lt.2 h, decide_eq_true h]; rfl
  · rw [Int.compare_eq_eq.2 h, decide_eq_false (by omega)]; rfl
  · rw [Int.compare_eq_gt.2 h, decide_eq_false (by omega)]; rfl
theorem ev_const {α : Type} {x : Option α} {r : α} (h : x = some r) : Ev (fun _ => x) r := by rw [h]; exact Ev.now r
theorem ev_if {α : Type} {c : Prop} [Decidable c] {f g : Nat → Option α} {r : α} (h : c) (k : Ev f r) : Ev (fun n => if c then f n else g n) r := Ev.congr (fun _ => if_pos h) k
theorem ev_else {α : Type} {c : Prop} [Decidable c] {f g : Nat → Option α} {r : α} (h : ¬ c) (k : Ev g r) : Ev (fun n => if c then f n else g n) r := Ev.congr (fun _ => if_neg h) k
section
open Go.Proofs.Ytkkohiflkhicpaa.CR Go.Proofs.Ytkkohiflkhicpaa.CF Go.Proofs.Ytkkohiflkhicpaa.CG Go.Proofs.Ytkkohiflkhicpaa.CH Go.Proofs.Ytkkohiflkhicpaa.CN
theorem from_lt (n : Int) : fromI n < 18446744073709551616 := (near_notnan _ _ _).2
theorem from_order (a b : Int) (ha : -4503599627370496 < a) (ha2 : a < 4503599627370496) (hb : -4503599627370496 < b) (hb2 : b < 4503599627370496) : Ieee.double.order (fromI a) (fromI b) = some (compare a b) := by
  obtain ⟨m, i, h1, h2, h3, h4⟩ := read_near (decide (a < 0)) a.natAbs 0 (by omega) (by omega) (by omega)
  obtain ⟨n, j, q1, q2, q3, q4⟩ := read_near (decide (b < 0)) b.natAbs 0 (by omega) (by omega) (by omega)
  refine order_just (E := 0) (A := a) (B := b) h1 q1 h3 q3 ?_ ?_
  · rw [h4]; exact sg_near _ _ _ _ _ (sg_int a)
  · rw [q4]; exact sg_near _ _ _ _ _ (sg_int b)
theorem from_parts (n : Int) (h0 : -2147483648 < n) (h1 : n < 2147483648) : (partsN (fromI n)).2.1 = decide (n < 0) ∧ ((partsN (fromI n)).1 == 2 || (partsN (fromI n)).1 == 4) = (n != 0) ∧ toInt32T (fromI n) = n := by
  obtain ⟨m, e, q1, q2, q3, q4⟩ := read_near (decide (n < 0)) n.natAbs 0 (by omega) (by omega) (by omega)
  have hp : 0 < 2 ^ (0 - e).toNat := Nat.pow_pos (by omega)
  have hpn : partsN (fromI n) = if m = 0 then (3, decide (n < 0), 0, 0) else (4, decide (n < 0), (m : Int), e) := by
    rw [parts_read _ (from_lt n)]
    show partsR (Ieee.double.read (Ieee.double.nearest _ _ 0)) = _
    rw [q1]; rfl
  unfold toInt32T
  rw [hpn]
  by_cases hz : n = 0
  · have hm : m = 0 := by rw [q4, hz]; exact Nat.zero_mul _
    rw [if_pos hm, hz]
    exact ⟨rfl, rfl, rfl⟩
  · have hm : m ≠ 0 := by rw [q4]; exact Nat.mul_ne_zero (by omega) (by omega)
    rw [if_neg hm]
    refine ⟨rfl, ?_, ?_⟩
    · show ((4 : Int) == 2 || (4 : Int) == 4) = _
      rw [show (n != 0) = true by simpa using hz]; rfl
    · show (if (4 : Int) = 4 then toI (decide (n < 0)) (wholeV (m : Int).toNat e) else 0) = n
      rw [if_pos rfl, Int.toNat_natCast]
      have hv : wholeV m e = n.natAbs := by
        unfold wholeV
        by_cases he : e < 0
        · rw [if_pos he, q4, show (0 - e).toNat = (-e).toNat by omega]
          exact Nat.mul_div_cancel _ (Nat.pow_pos (by omega))
        · obtain rfl : e = 0 := by omega
          rw [if_neg he, q4]
          simp
      rw [hv]
      clear hv hpn q1 q4 hp hm
      unfold toI toIn
      by_cases hn : n < 0
      · rw [decide_eq_true hn, if_pos rfl]
        obtain ⟨k, rfl⟩ : ∃ k : Nat, n = -(k : Int) := ⟨n.natAbs, by omega⟩
        rw [Int.natAbs_neg, Int.natAbs_natCast, show (4294967296 - k % 4294967296) % 4294967296 = 4294967296 - k by omega, if_pos (by omega)]
        omega
      · rw [decide_eq_false hn]
        simp only [Bool.false_eq_true, if_false]
        obtain ⟨k, rfl⟩ : ∃ k : Nat, n = (k : Int) := ⟨n.natAbs, by omega⟩
        rw [Int.natAbs_natCast, show k % 4294967296 = k by omega, if_neg (by omega)]
theorem placed (p q : Int) (hp : 0 ≤ p ∧ p < 10000) (hq : 0 ≤ q ∧ q < 10000) : wrap64 ((wrap64 ((wrap64 ((wrap64 (p * 10000)) + q)) * 9)) - 400000000) = (p * 10000 + q) * 9 - 400000000 := by
  rw [w64 (x := p * 10000) (by omega) (by omega), w64 (x := p * 10000 + q) (by omega) (by omega), w64 (x := (p * 10000 + q) * 9) (by omega) (by omega), w64 (by omega) (by omega)]
theorem FnWholes : laws_FnWholes.Pure := by
  intro l _ hl _
  rw [Nat.mul_one] at hl
  refine Ev.rounds ?_
  unfold laws_FnWholes.f laws_big.f
  simp only [Option.bind_some]
  by_cases hb : (l.length : Int) > 1048576
  · rw [decide_eq_true hb]
    simp only [if_true]
    exact Ev.now true
  · rw [decide_eq_false hb]
    simp only [Bool.false_eq_true, if_false]
    obtain ⟨L, e, hL, hx⟩ := spec_places l hl
    refine Ev.bind e ?_
    have hr : ∀ i : Nat, i < 12 → 0 ≤ rd L (i : Int) ∧ rd L (i : Int) < 10000 := by
      intro i hi
      have hm : L.getD i 0 ∈ L := by rw [List.getD_eq_getElem?_getD, List.getElem?_eq_getElem (by omega)]; simp
      have := hx _ hm
      unfold rd
      rw [Int.toNat_natCast]
      exact this
    have r0 : 0 ≤ rd L 0 ∧ rd L 0 < 10000 := hr 0 (by omega)
    have r1 : 0 ≤ rd L 1 ∧ rd L 1 < 10000 := hr 1 (by omega)
    have r2 : 0 ≤ rd L 2 ∧ rd L 2 < 10000 := hr 2 (by omega)
    have r3 : 0 ≤ rd L 3 ∧ rd L 3 < 10000 := hr 3 (by omega)
    rw [placed _ _ r0 r1, placed _ _ r2 r3]
    have n0 : -400000001 < (rd L 0 * 10000 + rd L 1) * 9 - 400000000 ∧ (rd L 0 * 10000 + rd L 1) * 9 - 400000000 < 600000000 := by omega
    have m0 : -400000001 < (rd L 2 * 10000 + rd L 3) * 9 - 400000000 ∧ (rd L 2 * 10000 + rd L 3) * 9 - 400000000 < 600000000 := by omega
    generalize (rd L 0 * 10000 + rd L 1) * 9 - 400000000 = n at *
    generalize (rd L 2 * 10000 + rd L 3) * 9 - 400000000 = m at *
    clear r0 r1 r2 r3 hr hx
    obtain ⟨hp1, hp2, hp3⟩ := from_parts n (by omega) (by omega)
    have ho := from_order n m (by omega) (by omega) (by omega) (by omega)
    have i1 := impl_Less_eq _ _ (from_lt n) (from_lt m)
    have i2 := impl_Equal_eq _ _ (from_lt n) (from_lt m)
    rw [show ltT (fromI n) (fromI m) = decide (n < m) by unfold ltT; rw [ho]; exact cmp_lt n m] at i1
    rw [show eqT (fromI n) (fromI m) = (n == m) by unfold eqT; rw [ho]; exact cmp_eq n m] at i2
    have t1 := impl_toInt32 (fromI n) (from_lt n)
    have t2 := impl_truthy (fromI n) (from_lt n)
    have t3 := impl_parts (fromI n) (from_lt n)
    rw [hp3] at t1
    rw [hp2] at t2
    have hw : wrap64 (n - n) = 0 := by rw [Int.sub_self]; exact w64 (by omega) (by omega)
    refine ev_if (by omega) (ev_if (by omega) (ev_if (by omega) (ev_if (by omega) ?_)))
    refine Ev.bind (ev_const (impl_FromInt_eq n)) (Ev.bind (ev_const (impl_FromInt_eq m)) (Ev.bind t1 (Ev.bind (ev_const i1) ?_)))
    refine ev_if (by rw [beq_self_eq_true]) (Ev.bind (ev_const i2) (ev_if (by rw [beq_self_eq_true]) ?_))
    rw [hw]
    refine ev_if rfl (ev_if (by omega) (ev_if (by omega) (Ev.bind t2 (ev_if (by rw [beq_self_eq_true]) (Ev.bind t3 ?_)))))
    rw [hp1, beq_self_eq_true]
    exact Ev.now true
end
end Go.Proofs.Ytkkohiflkhicpaa.Pure
