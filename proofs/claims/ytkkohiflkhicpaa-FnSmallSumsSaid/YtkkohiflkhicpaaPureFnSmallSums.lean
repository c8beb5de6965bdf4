/- Sums, differences and products of drawn whole numbers that are small enough are just. No condition but the statement's own. -/
import Derived.Test.YtkkohiflkhicpaaMFnSmallSumsx3
import Derived.Test.YtkkohiflkhicpaaCN
namespace Go.Proofs.Ytkkohiflkhicpaa.Pure
open Go.RowKit Go.Proofs.Ytkkohiflkhicpaa.MFnSmallSums Go.Proofs.YtkkohiflkhicpaaW.PrintWords Go.Proofs.YtkkohiflkhicpaaW.PrintLast Go.Proofs.Ytkkohiflkhicpaa.CB
/-- The eight lowest bits. -/
theorem and_low255 (x : Int) : 0 ≤ Go.bits .and .i64 x 255 ∧ Go.bits .and .i64 x 255 ≤ 255 := by
  have e : Go.bits .and .i64 x 255 = wrap64 (((BitVec.ofInt 64 x).toNat &&& 255 : Nat) : Int) := by
    simp only [Go.bits, wi64]
    show wrap64 (((BitVec.ofInt 64 x &&& BitVec.ofInt 64 255).toNat : Int)) = _
    rw [BitVec.toNat_and]
    rfl
  have h : (BitVec.ofInt 64 x).toNat &&& 255 ≤ 255 := Nat.and_le_right
  rw [e, w64 (by omega) (by omega)]
  omega
/-- One byte drawn. -/
theorem spec_byte (l : List Int) (i h : Int) (hl : l.length ≤ 140737488351232) (hi : 0 ≤ i) : ∃ v i' h', spec_l01Byte.f l i h = some (v, i', h') ∧ (0 ≤ v ∧ v ≤ 255) ∧ 0 ≤ i' := by
  unfold spec_l01Byte.f
  by_cases h1 : i < (l.length : Int)
  · rw [if_pos h1, if_pos hi]
    refine ⟨_, _, _, rfl, and_low255 _, ?_⟩
    rw [w64 (by omega) (by omega)]
    omega
  · rw [if_neg h1]
    exact ⟨_, _, _, rfl, and_low255 _, hi⟩
/-- A number below a bound drawn. -/
theorem spec_below (l : List Int) (i h n : Int) (hl : l.length ≤ 140737488351232) (hi : 0 ≤ i) (hn : 0 < n) : ∃ v i' h', spec_l01Below.f l i h n = some (v, i', h') ∧ (0 ≤ v ∧ v < n) ∧ 0 ≤ i' := by
  unfold spec_l01Below.f
  rw [if_neg (by omega)]
  by_cases h1 : n ≤ 256
  · rw [if_pos h1]
    obtain ⟨v, i', h', e, hv, hi'⟩ := spec_byte l i h hl hi
    rw [e]
    simp only [Option.bind_some]
    rw [if_neg (by omega), tmodN hv.1]
    exact ⟨_, _, _, rfl, ⟨Int.emod_nonneg _ (by omega), Int.emod_lt_of_pos _ hn⟩, hi'⟩
  · rw [if_neg h1]
    obtain ⟨v1, i1, h1, e1, r1, p1⟩ := spec_byte l i h hl hi
    obtain ⟨v2, i2, h2, e2, r2, p2⟩ := spec_byte l i1 h1 hl p1
    obtain ⟨v3, i3, h3, e3, r3, p3⟩ := spec_byte l i2 h2 hl p2
    obtain ⟨v4, i4, h4, e4, r4, p4⟩ := spec_byte l i3 h3 hl p3
    rw [e1]
    simp only [Option.bind_some]
    rw [e2]
    simp only [Option.bind_some]
    rw [e3]
    simp only [Option.bind_some]
    rw [e4]
    simp only [Option.bind_some]
    rw [if_neg (by omega), w64 (x := v1 * 16777216) (by omega) (by omega), w64 (x := v2 * 65536) (by omega) (by omega), w64 (x := v3 * 256) (by omega) (by omega), w64 (x := v1 * 16777216 + v2 * 65536) (by omega) (by omega), w64 (x := v1 * 16777216 + v2 * 65536 + v3 * 256) (by omega) (by omega), w64 (by omega) (by omega), tmodN (by omega)]
    exact ⟨_, _, _, rfl, ⟨Int.emod_nonneg _ (by omega), Int.emod_lt_of_pos _ hn⟩, p4⟩
theorem spec_new_l0 (l : List Int) (_hl : l.length ≤ 140737488351232) : ∀ (d i : Nat) (x : Int), 4000 - i = d → i ≤ 4000 → ∃ h, Ev (fun k => spec_l01New.l0 k l x (i : Int)) (l, 0, h) := by
  have hr : ∀ (k i : Nat) (x : Int), spec_l01New.l0 (k + 1) l x (i : Int) = if (i : Int) < (l.length : Int) then (if (i : Int) < 4000 then (if 0 ≤ (i : Int) then (spec_l01New.l0 k l (Go.bits .and .i64 (wrap64 ((wrap64 ((wrap64 (x * 131)) + (wrap64 (rd l i)))) + 7)) 1073741823) (wrap64 ((i : Int) + 1))) else (none)) else (some (l, 0, x))) else (some (l, 0, x)) := fun _ _ _ => rfl
  intro d
  induction d with
  | zero =>
    intro i x hd hi
    refine ⟨x, Ev.step (f := fun _ => some (l, 0, x)) (fun k => ?_) (Ev.now _)⟩
    rw [hr]
    split
    · rw [if_neg (by omega)]
    · rfl
  | succ d ih =>
    intro i x hd hi
    by_cases h1 : i < l.length
    · obtain ⟨h, e⟩ := ih (i + 1) (Go.bits .and .i64 (wrap64 ((wrap64 ((wrap64 (x * 131)) + (wrap64 (rd l i)))) + 7)) 1073741823) (by omega) (by omega)
      exact ⟨h, Ev.step (fun k => by rw [hr, if_pos (by omega), if_pos (by omega), if_pos (by omega), w64s (by omega)]) e⟩
    · exact ⟨x, Ev.step (f := fun _ => some (l, 0, x)) (fun k => by rw [hr, if_neg (by omega)]) (Ev.now _)⟩
/-- A source of draws made. -/
theorem spec_new (l : List Int) (hl : l.length ≤ 140737488351232) : ∃ h, Ev (fun k => spec_l01New.f k l) (l, 0, h) := spec_new_l0 l hl 4000 0 _ (by omega) (by omega)
theorem spec_places_l0 (l : List Int) (hl : l.length ≤ 140737488351232) : ∀ (d j : Nat) (T : List Int) (i h : Int), 12 - j = d → j ≤ 12 → T.length = j → (∀ x ∈ T, 0 ≤ x ∧ x < 10000) → 0 ≤ i →
    ∃ L : List Int, Ev (fun k => spec_DrawPlaces.l0 k T (j : Int) l i h) L ∧ L.length = 12 ∧ (∀ x ∈ L, 0 ≤ x ∧ x < 10000) := by
  have hr : ∀ (k j : Nat) (T : List Int) (i h : Int), spec_DrawPlaces.l0 (k + 1) T (j : Int) l i h = if (j : Int) < 12 then ((spec_l01Below.f l i h 10000).bind fun bt277 => (if T.length < 17592186044416 then (spec_DrawPlaces.l0 k (T ++ [bt277.1]) (wrap64 ((j : Int) + 1)) l bt277.2.1 bt277.2.2) else (none))) else (some T) := fun _ _ _ _ _ => rfl
  intro d
  induction d with
  | zero =>
    intro j T i h hd hj hT h9 hi
    exact ⟨T, Ev.step (f := fun _ => some T) (fun k => by rw [hr, if_neg (by omega)]) (Ev.now _), by omega, h9⟩
  | succ d ih =>
    intro j T i h hd hj hT h9 hi
    obtain ⟨v, i1, h1, e1, r1, p1⟩ := spec_below l i h 10000 hl hi (by omega)
    obtain ⟨L, e, r⟩ := ih (j + 1) (T ++ [v]) i1 h1 (by omega) (by omega) (by simp; omega) (by
      intro c hc
      rcases List.mem_append.1 hc with h2 | h2
      · exact h9 c h2
      · rw [List.mem_singleton.1 h2]; exact r1) p1
    refine ⟨L, Ev.step (fun k => ?_) e, r⟩
    rw [hr, if_pos (by omega), e1]
    simp only [Option.bind_some]
    rw [if_pos (by omega), w64s (by omega)]
/-- Twelve places drawn. -/
theorem spec_places (l : List Int) (hl : l.length ≤ 140737488351232) : ∃ L : List Int, Ev (fun k => spec_DrawPlaces.f k l) L ∧ L.length = 12 ∧ (∀ x ∈ L, 0 ≤ x ∧ x < 10000) := by
  obtain ⟨h, e⟩ := spec_new l hl
  obtain ⟨v, i1, h1, e1, _, p1⟩ := spec_byte l 0 h hl (by omega)
  obtain ⟨L, e2, r⟩ := spec_places_l0 l hl 12 0 [] i1 h1 (by omega) (by omega) rfl (by simp) p1
  refine ⟨L, ?_, r⟩
  unfold spec_DrawPlaces.f
  refine Ev.bind e ?_
  simp only [e1, Option.bind_some]
  exact e2
/-- What FromInt tells. -/
def fromI (n : Int) : Nat := Ieee.double.nearest (decide (n < 0)) n.natAbs 0
/-- The exponent within its bounds. -/
def clampE (E : Int) : Int := max (-5000) (min E 5000)
open Go.Proofs.Ytkkohiflkhicpaa.CR in
/-- What RoundTo tells. -/
def roundT (b : Bool) (M : Nat) (E : Int) (more : Bool) : Nat := if M = 0 then enc b 0 else nearS b M (clampE E) (more && decide (72057594037927936 ≤ M))
theorem spec_pow_l0 (n : Nat) (hn : n ≤ 63) : ∀ (d i : Nat), n - i = d → i ≤ n → Ev (fun k => spec_l03Pow.l0 k (n : Int) ((2 ^ i : Nat) : Int) (i : Int)) ((2 ^ n : Nat) : Int) := by
  intro d
  induction d with
  | zero =>
    intro i hd hi
    obtain rfl : i = n := by omega
    exact Ev.step (f := fun _ => some ((2 ^ i : Nat) : Int)) (fun k => by simp only [spec_l03Pow.l0]; rw [if_neg (by omega)]) (Ev.now _)
  | succ d ih =>
    intro i hd hi
    refine Ev.step (fun k => ?_) (ih (i + 1) (by omega) (by omega))
    simp only [spec_l03Pow.l0]
    have hp : 2 ^ (i + 1) ≤ 2 ^ 63 := Nat.pow_le_pow_right (by omega) (by omega)
    rw [if_pos (by omega), wu64, w64 (by omega) (by omega)]
    rw [Nat.pow_succ] at hp
    rw [show ((2 ^ i : Nat) : Int) * 2 % 18446744073709551616 = ((2 ^ (i + 1) : Nat) : Int) by rw [Nat.pow_succ]; omega]
    rfl
theorem spec_pow (n : Nat) (hn : n ≤ 63) : Ev (fun k => spec_l03Pow.f k (n : Int)) ((2 ^ n : Nat) : Int) := by
  unfold spec_l03Pow.f; exact spec_pow_l0 n hn n 0 (by omega) (by omega)
theorem spec_pow63 : Ev (fun k => spec_l03Pow.f k 63) 9223372036854775808 := spec_pow 63 (by omega)
open Go.Proofs.Ytkkohiflkhicpaa.CR in
theorem spec_sign (r : Nat) (b : Bool) (hr : r < 9223372036854775808) : Ev (fun k => spec_l03Sign.f k (r : Int) b) ((enc b r : Nat) : Int) := by
  unfold spec_l03Sign.f
  cases b
  · exact Ev.now _
  · simp only [if_true]
    refine Ev.bind spec_pow63 ?_
    rw [wu64, show ((r : Int) + 9223372036854775808) % 18446744073709551616 = ((enc true r : Nat) : Int) by unfold enc; rw [if_pos rfl]; omega]
    exact Ev.now _
open Go.Proofs.Ytkkohiflkhicpaa.CR in
theorem spec_pack_j9 (b : Bool) (last : Int) (m : Nat) (h0 : -1074 ≤ last) (h1 : last ≤ 10000) (hm : m < 9007199254740992) (hn : last ≠ -1074 → 4503599627370496 ≤ m) :
    Ev (fun k => spec_RoundTo.j9 k b (m : Int) last) ((packN b last m : Nat) : Int) := by
  have hj : ∀ (k : Nat) (x1 x2 : Int), spec_RoundTo.j9 (k + 1) b x1 x2 = if x1 < 4503599627370496 then ((spec_l03Sign.f k x1 b).bind fun t104 => (some t104)) else (if x2 > 971 then ((spec_l03Sign.f k 9218868437227405312 b).bind fun t105 => (some t105)) else ((spec_l03Sign.f k (IntKind.u64.wrap ((IntKind.u64.wrap (x1 - 4503599627370496)) + (IntKind.u64.wrap ((IntKind.u64.wrap (wrap64 (x2 + 1075))) * 4503599627370496)))) b).bind fun t106 => (some t106))) := fun _ _ _ => rfl
  by_cases h3 : m < 4503599627370496
  · have hl : last = -1074 := by
      rcases Int.lt_or_eq_of_le h0 with h | h
      · have := hn (by omega); omega
      · exact h.symm
    subst hl
    have e : packN b (-1074) m = enc b m := by
      unfold packN
      rw [Nat.min_eq_left (by omega), show (-1074 + 1074 : Int).toNat * 4503599627370496 + m = m by omega]
    rw [e]
    exact Ev.step (fun k => by rw [hj, if_pos (by omega)]) (Ev.bind (spec_sign m b (by omega)) (Ev.now _))
  · by_cases h2 : last > 971
    · have e : packN b last m = enc b 9218868437227405312 := by
        unfold packN
        rw [Nat.min_eq_right (by omega)]
      rw [e]
      have hs : Ev (fun k => spec_l03Sign.f k 9218868437227405312 b) ((enc b 9218868437227405312 : Nat) : Int) := spec_sign 9218868437227405312 b (by omega)
      exact Ev.step (fun k => by rw [hj, if_neg (by omega), if_pos h2]) (Ev.bind hs (Ev.now _))
    · have e : packN b last m = enc b (m - 4503599627370496 + (last + 1075).toNat * 4503599627370496) := by
        unfold packN
        rw [Nat.min_eq_left (by omega)]
        exact congrArg (enc b) (by omega)
      rw [e]
      refine Ev.step (fun k => ?_) (Ev.bind (spec_sign (m - 4503599627370496 + (last + 1075).toNat * 4503599627370496) b (by omega)) (Ev.now _))
      rw [hj, if_neg (by omega), if_neg h2, w64 (x := last + 1075) (by omega) (by omega), wu64, wu64, wu64, wu64,
        show (((m : Int) - 4503599627370496) % 18446744073709551616 + (last + 1075) % 18446744073709551616 * 4503599627370496 % 18446744073709551616) % 18446744073709551616 = ((m - 4503599627370496 + (last + 1075).toNat * 4503599627370496 : Nat) : Int) by omega]
open Go.Proofs.Ytkkohiflkhicpaa.CR in
theorem spec_pack_j8 (b : Bool) (last : Int) (m : Nat) (h0 : -1074 ≤ last) (h1 : last ≤ 9000) (hm : m ≤ 9007199254740992) (hn : last ≠ -1074 → 4503599627370496 ≤ m) :
    Ev (fun k => spec_RoundTo.j8 k b (m : Int) last) ((packN b last m : Nat) : Int) := by
  have hj : ∀ (k : Nat) (x1 x2 : Int), spec_RoundTo.j8 (k + 1) b x1 x2 = if x1 = 9007199254740992 then (spec_RoundTo.j9 k b 4503599627370496 (wrap64 (x2 + 1))) else (spec_RoundTo.j9 k b x1 x2) := fun _ _ _ => rfl
  by_cases h2 : m = 9007199254740992
  · subst h2
    have e : packN b last 9007199254740992 = packN b (last + 1) 4503599627370496 := by
      unfold packN
      rw [show (last + 1074).toNat * 4503599627370496 + 9007199254740992 = (last + 1 + 1074).toNat * 4503599627370496 + 4503599627370496 by omega]
    rw [e]
    refine Ev.step (fun k => ?_) (spec_pack_j9 b (last + 1) 4503599627370496 (by omega) (by omega) (by omega) (fun _ => by omega))
    rw [hj, if_pos (by omega), w64 (by omega) (by omega)]
    rfl
  · exact Ev.step (fun k => by rw [hj, if_neg (by omega)]) (spec_pack_j9 b last m h0 (by omega) (by omega) hn)
open Go.Proofs.Ytkkohiflkhicpaa.CR in
theorem spec_pack_j7 (b : Bool) (last : Int) (m : Nat) (z : Bool) (h0 : -1074 ≤ last) (h1 : last ≤ 9000) (hm : m + z.toNat ≤ 9007199254740992) (hn : last ≠ -1074 → 4503599627370496 ≤ m) :
    Ev (fun k => spec_RoundTo.j7 k b (m : Int) last z) ((packN b last (m + z.toNat) : Nat) : Int) := by
  have hj : ∀ (k : Nat) (x1 x2 : Int) (z : Bool), spec_RoundTo.j7 (k + 1) b x1 x2 z = if z = true then (spec_RoundTo.j8 k b (IntKind.u64.wrap (x1 + 1)) x2) else (spec_RoundTo.j8 k b x1 x2) := fun _ _ _ _ => rfl
  cases z
  · exact Ev.step (fun k => by rw [hj, if_neg (by simp)]) (spec_pack_j8 b last m h0 h1 (by simpa using hm) hn)
  · refine Ev.step (fun k => ?_) (spec_pack_j8 b last (m + 1) h0 h1 (by simpa using hm) (fun h => by have := hn h; omega))
    have hm' : m + 1 ≤ 9007199254740992 := by simpa using hm
    rw [hj, if_pos rfl, wu64, show ((m : Int) + 1) % 18446744073709551616 = ((m + 1 : Nat) : Int) by omega]
/-- The half and the rest of a number, so many bits of which are left out. -/
def halfB (M j : Nat) : Bool := decide (1 ≤ j ∧ M / 2 ^ (j - 1) % 2 = 1)
def restB (st : Bool) (M j : Nat) : Bool := st || decide (1 ≤ j ∧ M % 2 ^ (j - 1) ≠ 0)
open Go.Proofs.Ytkkohiflkhicpaa.CR in
/-- The half and the rest round as they should. -/
theorem round_bits (st : Bool) (M d : Nat) (hst : st = true → 1 ≤ d) : M / 2 ^ d + (halfB M d && (restB st M d || (M / 2 ^ d % 2 == 1))).toNat = if st then rneS M d else rne M d := by
  cases d with
  | zero =>
    have e : halfB M 0 = false := by unfold halfB; exact decide_eq_false (by omega)
    rw [e]
    cases st
    · rw [rne_zero]; simp
    · have := hst rfl; omega
  | succ c =>
    have e2 : (2 : Nat) ^ (c + 1) = 2 * 2 ^ c := by rw [Nat.pow_succ]; omega
    have hmod : M % 2 ^ (c + 1) = M % 2 ^ c + 2 ^ c * (M / 2 ^ c % 2) := Nat.mod_pow_succ
    have hlt : M % 2 ^ c < 2 ^ c := Nat.mod_lt _ (Nat.pow_pos (by omega))
    unfold rneS rne halfB restB
    rw [show c + 1 - 1 = c by omega, hmod, e2]
    generalize M / (2 * 2 ^ c) = q
    have hb : M / 2 ^ c % 2 = 0 ∨ M / 2 ^ c % 2 = 1 := by omega
    generalize M / 2 ^ c % 2 = h at *
    generalize M % 2 ^ c = r at *
    generalize 2 ^ c = p at *
    rcases hb with rfl | rfl
    · rw [Nat.mul_zero, Nat.add_zero]
      have e : decide (1 ≤ c + 1 ∧ 0 = 1) = false := decide_eq_false (by omega)
      rw [e]
      cases st
      · rw [if_neg (by simp), if_neg (by omega)]; rfl
      · rw [if_pos rfl, if_neg (by omega)]; rfl
    · rw [Nat.mul_one]
      have e : decide (1 ≤ c + 1 ∧ 1 = 1) = true := decide_eq_true (by omega)
      rw [e, Bool.true_and]
      cases st
      · rw [if_neg (by simp)]
        by_cases h0 : r = 0
        · subst h0
          have e3 : decide (1 ≤ c + 1 ∧ 0 ≠ 0) = false := decide_eq_false (by omega)
          rw [e3, Bool.false_or, Bool.false_or]
          by_cases h1 : q % 2 = 1
          · rw [if_pos (.inr (by omega)), show (q % 2 == 1) = true by simpa using h1]; rfl
          · rw [if_neg (by omega), show (q % 2 == 1) = false by simpa using h1]; rfl
        · have e3 : decide (1 ≤ c + 1 ∧ r ≠ 0) = true := decide_eq_true (by omega)
          rw [e3, if_pos (.inl (by omega))]; rfl
      · rw [if_pos rfl, if_pos (by omega)]; rfl
theorem half_next (M j : Nat) : halfB M (j + 1) = (M / 2 ^ j % 2 == 1) := by
  unfold halfB
  rw [show j + 1 - 1 = j by omega]
  by_cases h : M / 2 ^ j % 2 = 1
  · rw [decide_eq_true (by omega)]; exact (beq_iff_eq.mpr h).symm
  · rw [decide_eq_false (by omega)]; exact (beq_eq_false_iff_ne.mpr h).symm
theorem rest_next (st : Bool) (M j : Nat) : restB st M (j + 1) = (restB st M j || halfB M j) := by
  unfold restB halfB
  rw [show j + 1 - 1 = j by omega]
  cases st
  · simp only [Bool.false_or]
    cases j with
    | zero => simp [Nat.mod_one]
    | succ c =>
      rw [show c + 1 - 1 = c by omega, Nat.mod_pow_succ]
      have hp : 0 < 2 ^ c := Nat.pow_pos (by omega)
      generalize M % 2 ^ c = r
      have hb : M / 2 ^ c % 2 = 0 ∨ M / 2 ^ c % 2 = 1 := by omega
      generalize M / 2 ^ c % 2 = h at *
      generalize 2 ^ c = p at *
      rcases hb with rfl | rfl
      · rw [Nat.mul_zero, Nat.add_zero]; simp
      · rw [Nat.mul_one]; simp; omega
  · simp
theorem spec_l1_done (k : Nat) (b : Bool) (m : Int) (e : Int) (h r : Bool) (h1 : ¬ m ≥ 9007199254740992) (h2 : -1074 ≤ e) : spec_RoundTo.l1 (k + 2) b m e h r = spec_RoundTo.j7 k b m e (h && (r || (Int.tmod m 2 == 1))) := by
  have hj6 : ∀ (k : Nat), spec_RoundTo.j6 (k + 1) b m e h r false = (if h = true then (if r = true then (spec_RoundTo.j7 k b m e true) else (spec_RoundTo.j7 k b m e ((Int.tmod m 2) == 1))) else (spec_RoundTo.j7 k b m e false)) := fun _ => rfl
  have hl : ∀ (k : Nat), spec_RoundTo.l1 (k + 1) b m e h r = if m ≥ 9007199254740992 then (spec_RoundTo.j6 k b m e h r true) else (spec_RoundTo.j6 k b m e h r (decide (e < (-1074)))) := fun _ => rfl
  rw [hl, if_neg h1, decide_eq_false (by omega), hj6]
  cases h <;> cases r <;> rfl
theorem spec_l1_next (k : Nat) (b : Bool) (m : Nat) (e : Int) (h r : Bool) (hm : m < 18446744073709551616) (he : -30000 ≤ e ∧ e ≤ 30000) (hc : m ≥ 9007199254740992 ∨ e < -1074) :
    spec_RoundTo.l1 (k + 2) b (m : Int) e h r = if m / 2 = 0 ∧ e + 1 < -1074 then spec_RoundTo.l1 k b 0 (-1074) false ((r || h) || (m % 2 == 1)) else spec_RoundTo.l1 k b ((m / 2 : Nat) : Int) (e + 1) (m % 2 == 1) (r || h) := by
  have hj6 : ∀ (k : Nat), spec_RoundTo.j6 (k + 1) b (m : Int) e h r true = if r = true then (if (IntKind.u64.wrap (Int.tdiv (m : Int) 2)) = 0 then (if (wrap64 (e + 1)) < (-1074) then (spec_RoundTo.l1 k b (IntKind.u64.wrap (Int.tdiv (m : Int) 2)) (-1074) false true) else (spec_RoundTo.l1 k b (IntKind.u64.wrap (Int.tdiv (m : Int) 2)) (wrap64 (e + 1)) ((Int.tmod (m : Int) 2) == 1) true)) else (spec_RoundTo.l1 k b (IntKind.u64.wrap (Int.tdiv (m : Int) 2)) (wrap64 (e + 1)) ((Int.tmod (m : Int) 2) == 1) true)) else (if (IntKind.u64.wrap (Int.tdiv (m : Int) 2)) = 0 then (if (wrap64 (e + 1)) < (-1074) then (if h = true then (spec_RoundTo.l1 k b (IntKind.u64.wrap (Int.tdiv (m : Int) 2)) (-1074) false true) else (spec_RoundTo.l1 k b (IntKind.u64.wrap (Int.tdiv (m : Int) 2)) (-1074) false ((Int.tmod (m : Int) 2) == 1))) else (spec_RoundTo.l1 k b (IntKind.u64.wrap (Int.tdiv (m : Int) 2)) (wrap64 (e + 1)) ((Int.tmod (m : Int) 2) == 1) h)) else (spec_RoundTo.l1 k b (IntKind.u64.wrap (Int.tdiv (m : Int) 2)) (wrap64 (e + 1)) ((Int.tmod (m : Int) 2) == 1) h)) := fun _ => rfl
  have hl : ∀ (k : Nat), spec_RoundTo.l1 (k + 1) b (m : Int) e h r = if (m : Int) ≥ 9007199254740992 then (spec_RoundTo.j6 k b (m : Int) e h r true) else (spec_RoundTo.j6 k b (m : Int) e h r (decide (e < (-1074)))) := fun _ => rfl
  have e0 : spec_RoundTo.l1 (k + 2) b (m : Int) e h r = spec_RoundTo.j6 (k + 1) b (m : Int) e h r true := by
    rw [hl]
    by_cases h1 : (m : Int) ≥ 9007199254740992
    · rw [if_pos h1]
    · rw [if_neg h1, decide_eq_true (by omega)]
  have e1 : IntKind.u64.wrap (Int.tdiv (m : Int) 2) = ((m / 2 : Nat) : Int) := by rw [wu64, tdivN (Int.natCast_nonneg m)]; omega
  have e2 : ((Int.tmod (m : Int) 2) == 1) = (m % 2 == 1) := by
    rw [tmodN (Int.natCast_nonneg m), Bool.eq_iff_iff]; simp; omega
  have e3 : wrap64 (e + 1) = e + 1 := w64 (by omega) (by omega)
  rw [e0, hj6, e1, e2, e3]
  clear hj6 hl e0 e1 e2 e3
  by_cases h0 : m / 2 = 0
  · have h0' : ((m / 2 : Nat) : Int) = 0 := by omega
    rw [h0']
    by_cases h1 : e + 1 < -1074
    · simp only [if_pos h1, if_pos (show m / 2 = 0 ∧ e + 1 < -1074 from ⟨h0, h1⟩)]
      cases r <;> cases h <;> rfl
    · simp only [if_neg h1, if_neg (show ¬ (m / 2 = 0 ∧ e + 1 < -1074) from fun hh => h1 hh.2)]
      cases r <;> cases h <;> rfl
  · have h0' : ¬ ((m / 2 : Nat) : Int) = 0 := by omega
    simp only [if_neg h0', if_neg (show ¬ (m / 2 = 0 ∧ e + 1 < -1074) from fun hh => h0 hh.1)]
    cases r <;> cases h <;> rfl
open Go.Proofs.Ytkkohiflkhicpaa.CR in
theorem spec_l1_run (b st : Bool) (M : Nat) (E : Int) (D : Nat) (_h0 : M ≠ 0) (hM : M < 18446744073709551616) (hE : -5000 ≤ E ∧ E ≤ 5000) (hst : st = true → 1 ≤ D) (hD0 : -1074 ≤ E + D) (hD1 : M < 2 ^ (53 + D)) (hD2 : D < 10000) (hD3 : E + D ≤ 9000) (hstep : ∀ j, j < D → 2 ^ (53 + j) ≤ M ∨ E + j < -1074)
    (hn : E + D ≠ -1074 → 4503599627370496 ≤ M / 2 ^ D) :
    ∀ (d j : Nat), D - j = d → j ≤ D → Ev (fun k => spec_RoundTo.l1 k b ((M / 2 ^ j : Nat) : Int) (E + j) (halfB M j) (restB st M j)) ((packN b (E + D) (if st then rneS M D else rne M D) : Nat) : Int) := by
  intro d
  induction d with
  | zero =>
    intro j hd hj
    obtain rfl : j = D := by omega
    have hq : M / 2 ^ j < 9007199254740992 := Nat.div_lt_of_lt_mul (by rw [show (9007199254740992 : Nat) = 2 ^ 53 from rfl, ← Nat.pow_add, Nat.add_comm]; exact hD1)
    have hb := round_bits st M j hst
    rw [← hb]
    refine Ev.step (f := fun k => spec_RoundTo.l1 (k + 1) b ((M / 2 ^ j : Nat) : Int) (E + j) (halfB M j) (restB st M j)) (fun _ => rfl) ?_
    have ht : (Int.tmod ((M / 2 ^ j : Nat) : Int) 2 == 1) = (M / 2 ^ j % 2 == 1) := by
      rw [tmodN (Int.natCast_nonneg _), Bool.eq_iff_iff]
      generalize M / 2 ^ j = q
      simp; omega
    generalize hz : (halfB M j && (restB st M j || (M / 2 ^ j % 2 == 1))) = z
    have hz1 : z.toNat ≤ 1 := by cases z <;> decide
    refine Ev.step (fun k => ?_) (spec_pack_j7 b (E + j) (M / 2 ^ j) z hD0 hD3 (by omega) hn)
    rw [spec_l1_done k b _ _ _ _ (by omega) hD0, ht, hz]
  | succ d ih =>
    intro j hd hj
    have hc := hstep j (by omega)
    have hle : M / 2 ^ j ≤ M := Nat.div_le_self _ _
    have hdiv : M / 2 ^ j / 2 = M / 2 ^ (j + 1) := by rw [Nat.div_div_eq_div_mul, ← Nat.pow_succ]
    have hcond : M / 2 ^ j ≥ 9007199254740992 ∨ E + (j : Int) < -1074 := by
      rcases hc with h | h
      · left
        exact (Nat.le_div_iff_mul_le (Nat.pow_pos (by omega))).2 (by rw [show (9007199254740992 : Nat) = 2 ^ 53 from rfl, ← Nat.pow_add]; exact h)
      · right; exact h
    have hnx : ∀ k, spec_RoundTo.l1 (k + 2) b ((M / 2 ^ j : Nat) : Int) (E + j) (halfB M j) (restB st M j) = if M / 2 ^ j / 2 = 0 ∧ E + j + 1 < -1074 then spec_RoundTo.l1 k b 0 (-1074) false ((restB st M j || halfB M j) || (M / 2 ^ j % 2 == 1)) else spec_RoundTo.l1 k b ((M / 2 ^ j / 2 : Nat) : Int) (E + j + 1) (M / 2 ^ j % 2 == 1) (restB st M j || halfB M j) :=
      fun k => spec_l1_next k b (M / 2 ^ j) (E + j) _ _ (by omega) (by omega) hcond
    refine Ev.step (f := fun k => spec_RoundTo.l1 (k + 1) b ((M / 2 ^ j : Nat) : Int) (E + j) (halfB M j) (restB st M j)) (fun _ => rfl) ?_
    by_cases hz : M / 2 ^ j / 2 = 0 ∧ E + j + 1 < -1074
    · -- nothing is left of it
      have hz1 := hz.1
      rw [hdiv] at hz1
      have hlt : M < 2 ^ (j + 1) := by
        rcases Nat.lt_or_ge M (2 ^ (j + 1)) with h | h
        · exact h
        · have := Nat.div_pos h (Nat.pow_pos (n := j + 1) (show 0 < 2 by omega)); omega
      have hDj : j + 2 ≤ D := by omega
      have hp : 2 ^ (j + 2) ≤ 2 ^ D := Nat.pow_le_pow_right (by omega) hDj
      have hp2 : (2 : Nat) ^ (j + 2) = 2 * 2 ^ (j + 1) := by rw [Nat.pow_succ 2 (j + 1)]; omega
      have hS : rneS M D = 0 := by
        unfold rneS
        generalize 2 ^ D = q at *
        generalize 2 ^ (j + 2) = u at *
        generalize 2 ^ (j + 1) = v at *
        rw [Nat.div_eq_of_lt (show M < q by omega), Nat.mod_eq_of_lt (show M < q by omega), if_neg (by omega)]
      have hR : rne M D = 0 := by
        unfold rne
        generalize 2 ^ D = q at *
        generalize 2 ^ (j + 2) = u at *
        generalize 2 ^ (j + 1) = v at *
        rw [Nat.div_eq_of_lt (show M < q by omega), Nat.mod_eq_of_lt (show M < q by omega), if_neg (by omega)]
      have hz2 : (if st then rneS M D else rne M D) = 0 := by rw [hS, hR]; cases st <;> rfl
      rw [hz2]
      have hq0 : M / 2 ^ D = 0 := Nat.div_eq_of_lt (by
        generalize 2 ^ D = q at *
        generalize 2 ^ (j + 2) = u at *
        generalize 2 ^ (j + 1) = v at *
        omega)
      have hED : E + D = -1074 := by
        rcases Classical.em (E + D = -1074) with h | h
        · exact h
        · have := hn h; omega
      rw [hED]
      refine Ev.step (f := fun k => spec_RoundTo.l1 k b 0 (-1074) false ((restB st M j || halfB M j) || (M / 2 ^ j % 2 == 1))) (fun k => by rw [hnx k, if_pos hz]) ?_
      refine Ev.step (f := fun k => spec_RoundTo.l1 (k + 1) b 0 (-1074) false ((restB st M j || halfB M j) || (M / 2 ^ j % 2 == 1))) (fun _ => rfl) ?_
      exact Ev.step (fun k => by rw [spec_l1_done k b 0 (-1074) false _ (by omega) (by omega), Bool.false_and]; rfl) (spec_pack_j7 b (-1074) 0 false (by omega) (by omega) (by decide) (fun h => absurd rfl h))
    · have h' := ih (j + 1) (by omega) (by omega)
      rw [half_next, rest_next, ← hdiv] at h'
      refine Ev.step (fun k => ?_) h'
      rw [hnx k, if_neg hz]
      rw [show E + (j : Int) + 1 = E + ((j + 1 : Nat) : Int) by omega]
open Go.Proofs.Ytkkohiflkhicpaa.CR in
theorem spec_l0_run (b st : Bool) (M : Nat) (E : Int) (h0 : M ≠ 0) (hM : M < 18446744073709551616) (hE : -5000 ≤ E ∧ E ≤ 5000) (r : Int) :
    ∀ (d i : Nat), (E - lastP M E).toNat - i = d → i ≤ (E - lastP M E).toNat →
    Ev (fun k => spec_RoundTo.l1 k b ((M * 2 ^ (E - lastP M E).toNat : Nat) : Int) (E - (E - lastP M E).toNat) false st) r →
    Ev (fun k => spec_RoundTo.l0 k b ((M * 2 ^ i : Nat) : Int) (E - i) st) r := by
  have hl : ∀ (k : Nat) (x1 x2 : Int), spec_RoundTo.l0 (k + 1) b x1 x2 st = if x1 < 4503599627370496 then (if x2 > (-1074) then (spec_RoundTo.l0 k b (IntKind.u64.wrap (x1 * 2)) (wrap64 (x2 - 1)) st) else (spec_RoundTo.j4 k b x1 x2 st)) else (spec_RoundTo.j4 k b x1 x2 st) := fun _ _ _ => rfl
  have hj4 : ∀ (k : Nat) (x1 x2 : Int), spec_RoundTo.j4 (k + 1) b x1 x2 st = spec_RoundTo.l1 k b x1 x2 false st := fun _ _ _ => rfl
  have hlog := log_le h0
  have hlog2 := lt_log M
  have hlogM : M.log2 < 64 := log_mono hM h0
  intro d
  induction d with
  | zero =>
    intro i hd hi h
    obtain rfl : i = (E - lastP M E).toNat := by omega
    refine Ev.step (f := fun k => spec_RoundTo.j4 k b ((M * 2 ^ (E - lastP M E).toNat : Nat) : Int) (E - (E - lastP M E).toNat) st) (fun k => ?_) (Ev.step (fun k => by rw [hj4]) h)
    rw [hl]
    by_cases h1 : ((M * 2 ^ (E - lastP M E).toNat : Nat) : Int) < 4503599627370496
    · rw [if_pos h1]
      have : ¬ (E - ((E - lastP M E).toNat : Int) > -1074) := by
        intro h2
        have h3 : M * 2 ^ (E - lastP M E).toNat < 2 ^ 52 := by
          have : (2 : Nat) ^ 52 = 4503599627370496 := rfl
          omega
        have h4 : 2 ^ (M.log2 + (E - lastP M E).toNat) ≤ M * 2 ^ (E - lastP M E).toNat := by
          rw [Nat.pow_add]; exact Nat.mul_le_mul_right _ hlog
        have h5 : M.log2 + (E - lastP M E).toNat < 52 := by
          rcases Nat.lt_or_ge (M.log2 + (E - lastP M E).toNat) 52 with h | h
          · exact h
          · have := Nat.pow_le_pow_right (n := 2) (by omega) h
            omega
        clear h1 h3 h4
        unfold lastP at *
        omega
      rw [if_neg this]
    · rw [if_neg h1]
  | succ d ih =>
    intro i hd hi h
    have h' := ih (i + 1) (by omega) (by omega) h
    refine Ev.step (fun k => ?_) h'
    have hlt : M * 2 ^ i < 4503599627370496 := by
      have h3 : M * 2 ^ i < 2 ^ (M.log2 + 1) * 2 ^ i := Nat.mul_lt_mul_of_pos_right hlog2 (Nat.pow_pos (by omega))
      rw [← Nat.pow_add] at h3
      exact Nat.lt_of_lt_of_le h3 (Nat.pow_le_pow_right (n := 2) (by omega) (show M.log2 + 1 + i ≤ 52 by unfold lastP at *; omega))
    have hgt : E - (i : Int) > -1074 := by unfold lastP at *; omega
    have e1 : M * 2 ^ (i + 1) = M * 2 ^ i * 2 := by rw [Nat.pow_succ, Nat.mul_assoc]
    rw [e1]
    generalize M * 2 ^ i = p at *
    rw [hl, if_pos (by omega), if_pos hgt, wu64, w64 (by omega) (by omega), show ((p : Nat) : Int) * 2 % 18446744073709551616 = ((p * 2 : Nat) : Int) by omega, show E - (i : Int) - 1 = E - ((i + 1 : Nat) : Int) by omega]
open Go.Proofs.Ytkkohiflkhicpaa.CR in
theorem spec_round_l0 (b st : Bool) (M : Nat) (E : Int) (h0 : M ≠ 0) (hM : M < 18446744073709551616) (hE : -5000 ≤ E ∧ E ≤ 5000) (hst : st = true → 72057594037927936 ≤ M) :
    Ev (fun k => spec_RoundTo.l0 k b (M : Int) E st) ((nearS b M E st : Nat) : Int) := by
  have hlog := log_le h0
  have hlog2 := lt_log M
  have hlogM : M.log2 < 64 := log_mono hM h0
  have h := spec_l0_run b st M E h0 hM hE ((nearS b M E st : Nat) : Int) (E - lastP M E).toNat 0 (by omega) (by omega)
  rw [Nat.pow_zero, Nat.mul_one, show E - ((0 : Nat) : Int) = E by omega] at h
  refine h ?_
  have hlp : -1074 ≤ lastP M E ∧ lastP M E ≤ 8000 := by unfold lastP; omega
  have hlp2 : E + M.log2 - 52 ≤ lastP M E := by unfold lastP; omega
  have hlp3 : lastP M E = -1074 ∨ lastP M E = E + M.log2 - 52 := by unfold lastP; omega
  have hkr := kept_range M E h0
  by_cases hd : lastP M E > E
  · -- down
    have hres : nearS b M E st = packN b (E + ((lastP M E - E).toNat : Int)) (if st then rneS M (lastP M E - E).toNat else rne M (lastP M E - E).toNat) := by
      rw [show E + ((lastP M E - E).toNat : Int) = lastP M E by omega]
      cases st
      · unfold nearS
        rw [if_neg (by simp), if_neg (by simp), near_down b M E h0 (by omega)]
      · rw [near_st b M E (hst rfl), if_pos rfl]
    rw [hres, show (E - lastP M E).toNat = 0 by omega, Nat.pow_zero, Nat.mul_one, show E - ((0 : Nat) : Int) = E by omega]
    have hrun := spec_l1_run b st M E (lastP M E - E).toNat h0 hM hE (fun _ => by omega) (by omega)
      (Nat.lt_of_lt_of_le hlog2 (Nat.pow_le_pow_right (by omega) (by omega))) (by omega) (by omega)
      (fun j hj => by
        rcases Classical.em (E + j < -1074) with h | h
        · exact .inr h
        · left; exact Nat.le_trans (Nat.pow_le_pow_right (by omega) (by omega)) hlog)
      (fun hne => by
        have hx : lastP M E ≠ -1074 := by omega
        refine (Nat.le_div_iff_mul_le (Nat.pow_pos (by omega))).2 ?_
        rw [show (4503599627370496 : Nat) = 2 ^ 52 from rfl, ← Nat.pow_add]
        exact Nat.le_trans (Nat.pow_le_pow_right (by omega) (by omega)) hlog)
      (lastP M E - E).toNat 0 (by omega) (by omega)
    rw [Nat.pow_zero, Nat.div_one, show E + ((0 : Nat) : Int) = E by omega] at hrun
    have e1 : halfB M 0 = false := by unfold halfB; exact decide_eq_false (by omega)
    have e2 : restB st M 0 = st := by unfold restB; rw [decide_eq_false (by omega), Bool.or_false]
    rw [e1, e2] at hrun
    exact hrun
  · -- up
    have hst2 : st = false := by
      cases st
      · rfl
      · have := lastP_big M E (hst rfl); omega
    subst hst2
    have hres : nearS b M E false = packN b (lastP M E) (M * 2 ^ (E - lastP M E).toNat) := by
      unfold nearS
      rw [if_neg (by simp), near_up b M E h0 (by omega)]
    rw [show (lastP M E - E).toNat = 0 by omega, rne_zero] at hkr
    rw [hres, show E - (((E - lastP M E).toNat : Nat) : Int) = lastP M E by omega]
    generalize hm : M * 2 ^ (E - lastP M E).toNat = m at *
    rcases Nat.lt_or_ge m 9007199254740992 with hmlt | hmge
    · refine Ev.step (f := fun k => spec_RoundTo.l1 (k + 1) b (m : Int) (lastP M E) false false) (fun _ => rfl) ?_
      have hp := spec_pack_j7 b (lastP M E) m false hlp.1 (by omega) (by show m + 0 ≤ _; omega) hkr.2
      exact Ev.step (fun k => by rw [spec_l1_done k b (m : Int) (lastP M E) false false (by omega) hlp.1, Bool.false_and]) hp
    · exfalso
      have h3 : M * 2 ^ (E - lastP M E).toNat < 2 ^ (M.log2 + 1) * 2 ^ (E - lastP M E).toNat := Nat.mul_lt_mul_of_pos_right hlog2 (Nat.pow_pos (by omega))
      rw [← Nat.pow_add] at h3
      have h4 := Nat.pow_le_pow_right (n := 2) (by omega) (show M.log2 + 1 + (E - lastP M E).toNat ≤ 53 by omega)
      have h5 : (2 : Nat) ^ 53 = 9007199254740992 := rfl
      omega
open Go.Proofs.Ytkkohiflkhicpaa.CR in
theorem spec_round (b : Bool) (M : Nat) (hM : M < 18446744073709551616) (E : Int) (more : Bool) :
    Ev (fun k => spec_RoundTo.f k b (M : Int) E more) ((roundT b M E more : Nat) : Int) := by
  have hj0 : ∀ (k : Nat) (x2 : Int), spec_RoundTo.j0 (k + 1) b (M : Int) x2 more = if x2 < (-5000) then (spec_RoundTo.j1 k b (M : Int) (-5000) more) else (spec_RoundTo.j1 k b (M : Int) x2 more) := fun _ _ => rfl
  have hj1 : ∀ (k : Nat) (x2 : Int), spec_RoundTo.j1 (k + 1) b (M : Int) x2 more = if more = true then ((spec_l03Pow.f k 56).bind fun t102 => (spec_RoundTo.j2 k b (M : Int) x2 (decide ((M : Int) ≥ t102)))) else (spec_RoundTo.j2 k b (M : Int) x2 false) := fun _ _ => rfl
  have hj2 : ∀ (k : Nat) (x2 : Int) (z : Bool), spec_RoundTo.j2 (k + 1) b (M : Int) x2 z = if (M : Int) = 0 then ((spec_l03Sign.f k 0 b).bind fun t103 => (some t103)) else (spec_RoundTo.l0 k b (M : Int) x2 z) := fun _ _ _ => rfl
  have hcr : -5000 ≤ clampE E ∧ clampE E ≤ 5000 := by unfold clampE; omega
  have k2 : ∀ z : Bool, z = (more && decide (72057594037927936 ≤ M)) → Ev (fun k => spec_RoundTo.j2 k b (M : Int) (clampE E) z) ((roundT b M E more : Nat) : Int) := by
    intro z hz
    unfold roundT
    by_cases h0 : M = 0
    · rw [if_pos h0]
      have hs : Ev (fun k => spec_l03Sign.f k 0 b) ((enc b 0 : Nat) : Int) := spec_sign 0 b (by omega)
      exact Ev.step (fun k => by rw [hj2, if_pos (by omega)]) (Ev.bind hs (Ev.now _))
    · rw [if_neg h0, ← hz]
      exact Ev.step (fun k => by rw [hj2, if_neg (by omega)]) (spec_round_l0 b z M (clampE E) h0 hM hcr (fun hh => by rw [hz] at hh; simp at hh; exact hh.2))
  have k1 : Ev (fun k => spec_RoundTo.j1 k b (M : Int) (clampE E) more) ((roundT b M E more : Nat) : Int) := by
    cases hm : more
    · rw [hm] at k2 hj1
      exact Ev.step (fun k => by rw [hj1, if_neg (by simp)]) (k2 false (by simp))
    · rw [hm] at k2 hj1
      have hp : Ev (fun k => spec_l03Pow.f k 56) ((2 ^ 56 : Nat) : Int) := spec_pow 56 (by omega)
      refine Ev.step (f := fun k => (spec_l03Pow.f k 56).bind fun t102 => spec_RoundTo.j2 k b (M : Int) (clampE E) (decide ((M : Int) ≥ t102))) (fun k => by rw [hj1, if_pos rfl]) (Ev.bind hp ?_)
      refine k2 _ ?_
      rw [Bool.true_and, decide_eq_decide]
      have : ((2 ^ 56 : Nat) : Int) = 72057594037927936 := rfl
      rw [this]; omega
  unfold spec_RoundTo.f
  by_cases h1 : E > 5000
  · simp only [if_pos h1]
    have : clampE E = 5000 := by unfold clampE; omega
    rw [this] at k1
    exact Ev.step (fun k => by rw [hj0, if_neg (by omega)]) k1
  · simp only [if_neg h1]
    by_cases h2 : E < -5000
    · have : clampE E = -5000 := by unfold clampE; omega
      rw [this] at k1
      exact Ev.step (fun k => by rw [hj0, if_pos h2]) k1
    · have : clampE E = E := by unfold clampE; omega
      rw [this] at k1
      exact Ev.step (fun k => by rw [hj0, if_neg h2]) k1
open Go.Proofs.Ytkkohiflkhicpaa.CR in
theorem round_near (b : Bool) (M : Nat) (E : Int) (st : Bool) (h0 : M ≠ 0) (h1 : -5000 ≤ E) (h2 : E ≤ 5000) (hst : st = true → 72057594037927936 ≤ M) : roundT b M E st = nearS b M E st := by
  unfold roundT
  rw [if_neg h0, show clampE E = E by unfold clampE; omega]
  congr 1
  cases hs : st
  · rfl
  · rw [decide_eq_true (hst hs)]; rfl
open Go.Proofs.Ytkkohiflkhicpaa.CR Go.Proofs.Ytkkohiflkhicpaa.CF in
/-- A rounded number told by its places: what is above the mantissa's places is told by whether there is any. -/
theorem round_form (b : Bool) (M k t : Nat) (E : Int) (ht : t < 2 ^ k) (hM : t ≠ 0 → 72057594037927936 ≤ M) (h0 : M ≠ 0) (h1 : -5000 ≤ E) (h2 : E ≤ 5000) : roundT b M E (decide (t ≠ 0)) = Ieee.double.nearest b (M * 2 ^ k + t) (E - k) := by
  rw [near_form b M k t E ht (fun h => by have := hM h; omega) h0]
  exact round_near b M E _ h0 h1 h2 (fun h => hM (of_decide_eq_true h))
section
open Go.Proofs.Ytkkohiflkhicpaa.CR Go.Proofs.Ytkkohiflkhicpaa.CF Go.Proofs.Ytkkohiflkhicpaa.CG
theorem round_whole (b : Bool) (m : Nat) : roundT b m 0 false = Ieee.double.nearest b m 0 := by
  unfold roundT
  by_cases h : m = 0
  · rw [if_pos h, h, near_zero]
  · rw [if_neg h, Bool.false_and, show clampE 0 = 0 by decide]
    unfold nearS
    rw [if_neg (by simp)]
theorem spec_FromInt_eq (n : Int) (h0 : -9223372036854775808 ≤ n) (h1 : n < 9223372036854775808) : Ev (fun k => spec_FromInt.f k n) ((fromI n : Nat) : Int) := by
  unfold spec_FromInt.f fromI
  have hR : ∀ (b : Bool) (M : Nat), M < 18446744073709551616 → Ev (fun K => (spec_RoundTo.f K b (M : Int) 0 false).bind fun v => some v) ((Ieee.double.nearest b M 0 : Nat) : Int) := fun b M hM => by
    rw [← round_whole]; exact Ev.bind (spec_round b M hM 0 false) (Ev.now _)
  by_cases h : n = -9223372036854775808
  · have e1 : n.natAbs = 9223372036854775808 := by omega
    have e3 := hR true 9223372036854775808 (by omega)
    have e4 : ((9223372036854775808 : Nat) : Int) = 9223372036854775808 := rfl
    rw [e4] at e3
    rw [e1, decide_eq_true (show n < 0 by omega)]
    simp only [if_pos h]
    exact Ev.bind spec_pow63 e3
  · simp only [if_neg h]
    by_cases h2 : n < 0
    · simp only [if_pos h2, decide_eq_true h2]
      rw [w64 (x := -n) (by omega) (by omega), wu64, show -n % 18446744073709551616 = ((n.natAbs : Nat) : Int) by omega]
      exact hR true _ (by omega)
    · simp only [if_neg h2, decide_eq_false h2]
      rw [wu64, show n % 18446744073709551616 = ((n.natAbs : Nat) : Int) by omega]
      exact hR false _ (by omega)
end
theorem inU_nat (a : Nat) (h : a < 18446744073709551616) : Go.Proofs.Ytkkohiflkhicpaa.G.inU64 (a : Int) = true := by
  unfold Go.Proofs.Ytkkohiflkhicpaa.G.inU64
  rw [decide_eq_true (by omega), decide_eq_true (by omega)]; rfl
section
open Go.Proofs.Ytkkohiflkhicpaa.CR Go.Proofs.Ytkkohiflkhicpaa.CF Go.Proofs.Ytkkohiflkhicpaa.CG Go.Proofs.Ytkkohiflkhicpaa.CH
theorem impl_Add_eq (a b : Nat) (ha : a < 18446744073709551616) (hb : b < 18446744073709551616) : impl_Add.f (a : Int) (b : Int) = some ((addT a b : Nat) : Int) := by
  unfold impl_Add.f Go.Proofs.Ytkkohiflkhicpaa.G.impl_Add
  rw [if_pos (inU_nat a ha), if_pos (inU_nat b hb), Int.toNat_natCast, Int.toNat_natCast]
end
/-- The parts of a number: kind, below, mantissa, exponent. -/
def partsN (x : Nat) : Int × Bool × Int × Int :=
  if 9218868437227405312 < x % 9223372036854775808 then (1, false, 0, 0)
  else if x % 9223372036854775808 = 9218868437227405312 then (2, decide (9223372036854775808 ≤ x), 0, 0)
  else if x % 9223372036854775808 = 0 then (3, decide (9223372036854775808 ≤ x), 0, 0)
  else if x % 9223372036854775808 < 4503599627370496 then (4, decide (9223372036854775808 ≤ x), ((x % 4503599627370496 : Nat) : Int), -1074)
  else (4, decide (9223372036854775808 ≤ x), ((x % 4503599627370496 + 4503599627370496 : Nat) : Int), ((x / 4503599627370496 % 2048 : Nat) : Int) - 1075)
def nanB (x : Nat) : Bool := decide (9218868437227405312 < x % 9223372036854775808)
theorem partsN_kind (x : Nat) : ((partsN x).1 == 1) = nanB x := by
  unfold partsN nanB
  split
  · rename_i h; simp [h]
  · rename_i h; rw [decide_eq_false h]; split
    · rfl
    · split
      · rfl
      · split <;> rfl
/-- The parts of a finite number. -/
theorem parts_fin (x : Nat) (_hx : x < 18446744073709551616) (h : (partsN x).1 = 4) : ∃ (b : Bool) (m : Nat) (e : Int), partsN x = (4, b, (m : Int), e) ∧ m ≠ 0 ∧ m < 9007199254740992 ∧ -1074 ≤ e ∧ e ≤ 971 ∧ (e ≠ -1074 → 4503599627370496 ≤ m) := by
  revert h
  unfold partsN
  split
  · intro h; exact absurd (show (1 : Int) = 4 from h) (by decide)
  · split
    · intro h; exact absurd (show (2 : Int) = 4 from h) (by decide)
    · split
      · intro h; exact absurd (show (3 : Int) = 4 from h) (by decide)
      · split
        · intro _; exact ⟨_, _, _, rfl, by omega, by omega, by omega, by omega, fun h => absurd rfl h⟩
        · intro _; exact ⟨_, _, _, rfl, by omega, by omega, by omega, by omega, fun _ => by omega⟩
theorem impl_nan (x : Nat) (hx : x < 18446744073709551616) : impl_isNaN.f (x : Int) = some (nanB x) := by
  unfold impl_isNaN.f nanB
  rw [and63 x hx]
  congr 1
  rw [decide_eq_decide]; omega
section
open Go.Proofs.Ytkkohiflkhicpaa.CR Go.Proofs.Ytkkohiflkhicpaa.CF Go.Proofs.Ytkkohiflkhicpaa.CG Go.Proofs.Ytkkohiflkhicpaa.CN
/-- What Negate tells, as a Nat. -/
def negM (x : Nat) : Nat := if nanB x = true then 9221120237041090560 else negT x
theorem negM_lt (x : Nat) (hx : x < 18446744073709551616) : negM x < 18446744073709551616 := by
  unfold negM
  split
  · omega
  · exact negT_lt x hx
theorem negXor (x : Nat) (hx : x < 18446744073709551616) : Go.bits .xor .u64 (x : Int) 9223372036854775808 = ((negT x : Nat) : Int) := by
  have h := xor_u64 x 9223372036854775808 hx (by omega)
  have e : ((9223372036854775808 : Nat) : Int) = 9223372036854775808 := rfl
  rw [negT_xor x hx, e] at h
  exact h
end
section
open Go.Proofs.Ytkkohiflkhicpaa.CN
theorem impl_neg_nat (x : Nat) (hx : x < 18446744073709551616) : impl_Negate.f (x : Int) = some ((negM x : Nat) : Int) := by
  unfold impl_Negate.f negM
  rw [impl_nan x hx]
  simp only [Option.bind_some]
  by_cases h : nanB x = true
  · rw [if_pos h, if_pos h]; rfl
  · rw [if_neg h, if_neg h, negXor x hx]
end
theorem ev_const {α : Type} {x : Option α} {r : α} (h : x = some r) : Ev (fun _ => x) r := by rw [h]; exact Ev.now r
theorem ev_if {α : Type} {c : Prop} [Decidable c] {f g : Nat → Option α} {r : α} (h : c) (k : Ev f r) : Ev (fun n => if c then f n else g n) r := Ev.congr (fun _ => if_pos h) k
theorem ev_else {α : Type} {c : Prop} [Decidable c] {f g : Nat → Option α} {r : α} (h : ¬ c) (k : Ev g r) : Ev (fun n => if c then f n else g n) r := Ev.congr (fun _ => if_neg h) k
section
open Go.Proofs.Ytkkohiflkhicpaa.CR Go.Proofs.Ytkkohiflkhicpaa.CF Go.Proofs.Ytkkohiflkhicpaa.CG Go.Proofs.Ytkkohiflkhicpaa.CH Go.Proofs.Ytkkohiflkhicpaa.CN
theorem whole_eq (n : Int) (h0 : -9223372036854775808 ≤ n) (h1 : n < 9223372036854775808) : Ev (fun k => laws_whole.f k n) ((fromI n : Nat) : Int) := by
  unfold laws_whole.f; exact Ev.bind (spec_FromInt_eq n h0 h1) (Ev.now _)
theorem from_lt (n : Int) : fromI n < 18446744073709551616 := (near_notnan _ _ _).2
theorem from_add (a b : Int) (ha : -4503599627370496 < a) (ha2 : a < 4503599627370496) (hb : -4503599627370496 < b) (hb2 : b < 4503599627370496) : addT (fromI a) (fromI b) = fromI (a + b) := by
  obtain ⟨m, i, h1, h2, h3, h4⟩ := read_near (decide (a < 0)) a.natAbs 0 (by omega) (by omega) (by omega)
  obtain ⟨n, j, q1, q2, q3, q4⟩ := read_near (decide (b < 0)) b.natAbs 0 (by omega) (by omega) (by omega)
  refine add_just (E := 0) (A := a) (B := b) h1 q1 h3 q3 ?_ ?_ ?_
  · rw [h4]; exact sg_near _ _ _ _ _ (sg_int a)
  · rw [q4]; exact sg_near _ _ _ _ _ (sg_int b)
  · intro h
    by_cases hn : a < 0
    · rw [decide_eq_false (show ¬ b < 0 by omega), Bool.and_false]
    · rw [decide_eq_false hn, Bool.false_and]
theorem from_sub (a b : Int) (ha : -4503599627370496 < a) (ha2 : a < 4503599627370496) (hb : -4503599627370496 < b) (hb2 : b < 4503599627370496) : addT (fromI a) (negM (fromI b)) = fromI (a - b) := by
  obtain ⟨m, i, h1, h2, h3, h4⟩ := read_near (decide (a < 0)) a.natAbs 0 (by omega) (by omega) (by omega)
  obtain ⟨n, j, q1, q2, q3, q4⟩ := read_near (decide (b < 0)) b.natAbs 0 (by omega) (by omega) (by omega)
  have hnn : nanB (fromI b) = false := (near_notnan _ _ _).1
  have hneg : negM (fromI b) = negT (fromI b) := by unfold negM; rw [hnn, if_neg (by simp)]
  have hr : Ieee.double.read (negT (fromI b)) = .number (!decide (b < 0)) n j := by
    rw [negT_read _ (from_lt b)]; show (Ieee.double.read (Ieee.double.nearest _ _ 0)).opposite = _; rw [q1]; rfl
  rw [hneg, show a - b = a + -b by omega]
  refine add_just (E := 0) (A := a) (B := -b) h1 hr h3 q3 ?_ ?_ ?_
  · rw [h4]; exact sg_near _ _ _ _ _ (sg_int a)
  · rw [q4]
    refine sg_near _ _ _ _ _ ?_
    unfold sg
    by_cases h : b < 0
    · rw [decide_eq_true h, Bool.not_true, if_neg (by simp)]; omega
    · rw [decide_eq_false h, Bool.not_false, if_pos rfl]; omega
  · intro h
    by_cases hn : a < 0
    · rw [decide_eq_true (show b < 0 by omega), Bool.not_true, Bool.and_false]
    · rw [decide_eq_false hn, Bool.false_and]
/-- A number of so many parts of 128. -/
def part (n : Nat) : Nat := Ieee.double.nearest false n (-7)
theorem part_round (n : Nat) : roundT false n (-7) false = part n := by
  unfold roundT part
  by_cases h : n = 0
  · rw [if_pos h, h, near_zero]
  · rw [if_neg h, Bool.false_and, show clampE (-7) = -7 by decide]
    unfold nearS
    rw [if_neg (by simp)]
theorem part_eq (n : Nat) (hn : n < 100000) : Ev (fun k => spec_RoundTo.f k false (IntKind.u64.wrap (n : Int)) (-7) false) ((part n : Nat) : Int) := by
  have e : IntKind.u64.wrap (n : Int) = (n : Int) := by rw [wu64]; omega
  rw [e, ← part_round]
  exact spec_round false n (by omega) (-7) false
theorem part_add (a b : Nat) (ha : a < 10000) (hb : b < 10000) : addT (part a) (part b) = part (a + b) := by
  obtain ⟨m, i, h1, h2, h3, h4⟩ := read_near false a (-7) (by omega) (by omega) (by omega)
  obtain ⟨n, j, q1, q2, q3, q4⟩ := read_near false b (-7) (by omega) (by omega) (by omega)
  have h := add_just (E := -7) (A := a) (B := b) h1 q1 h3 q3 (by rw [h4]; exact sg_near _ _ _ _ _ rfl) (by rw [q4]; exact sg_near _ _ _ _ _ rfl) (fun _ => rfl)
  rw [decide_eq_false (by omega), show ((a : Int) + b).natAbs = a + b by omega] at h
  exact h
theorem impl_Sub_eq (a b : Nat) (ha : a < 18446744073709551616) (hb : b < 18446744073709551616) : impl_Sub.f (a : Int) (b : Int) = some ((addT a (negM b) : Nat) : Int) := by
  unfold impl_Sub.f
  rw [impl_neg_nat b hb, Option.bind_some, impl_Add_eq a _ ha (negM_lt b hb), Option.bind_some]
theorem part_lt (n : Nat) : part n < 18446744073709551616 := (near_notnan _ _ _).2
theorem small (p q r : Int) (hp : 0 ≤ p ∧ p < 10000) (hq : 0 ≤ q ∧ q < 10000) (hr : 0 ≤ r ∧ r < 10000) : wrap64 (wrap64 (p * q) - r) = p * q - r ∧ -10000 < p * q - r ∧ p * q - r < 100000000 := by
  have h1 : 0 ≤ p * q := Int.mul_nonneg hp.1 hq.1
  have h2 : p * q ≤ 9999 * 9999 := Int.mul_le_mul (by omega) (by omega) hq.1 (by omega)
  generalize p * q = z at *
  rw [w64 (x := z) (by omega) (by omega), w64 (by omega) (by omega)]
  omega
theorem FnSmallSums : laws_FnSmallSums.Pure := by
  intro l _ hl _
  rw [Nat.mul_one] at hl
  refine Ev.rounds ?_
  unfold laws_FnSmallSums.f laws_big.f
  simp only [Option.bind_some]
  by_cases hb : (l.length : Int) > 1048576
  · rw [decide_eq_true hb]
    simp only [if_true]
    exact Ev.now true
  · rw [decide_eq_false hb]
    simp only [Bool.false_eq_true, if_false]
    obtain ⟨L, e, hL, hx⟩ := spec_places l hl
    refine Ev.bind e ?_
    have hr : ∀ i : Nat, i < 12 → 0 ≤ rd L (i : Int) ∧ rd L (i : Int) < 10000 := by
      intro i hi
      have hm : L.getD i 0 ∈ L := by rw [List.getD_eq_getElem?_getD, List.getElem?_eq_getElem (by omega)]; simp
      have := hx _ hm
      unfold rd
      rw [Int.toNat_natCast]
      exact this
    have r0 : 0 ≤ rd L 0 ∧ rd L 0 < 10000 := hr 0 (by omega)
    have r1 : 0 ≤ rd L 1 ∧ rd L 1 < 10000 := hr 1 (by omega)
    have r2 : 0 ≤ rd L 2 ∧ rd L 2 < 10000 := hr 2 (by omega)
    have r3 : 0 ≤ rd L 3 ∧ rd L 3 < 10000 := hr 3 (by omega)
    have r4 : 0 ≤ rd L 4 ∧ rd L 4 < 10000 := hr 4 (by omega)
    have r5 : 0 ≤ rd L 5 ∧ rd L 5 < 10000 := hr 5 (by omega)
    have r6 : 0 ≤ rd L 6 ∧ rd L 6 < 10000 := hr 6 (by omega)
    have r7 : 0 ≤ rd L 7 ∧ rd L 7 < 10000 := hr 7 (by omega)
    obtain ⟨n6, e6⟩ : ∃ n : Nat, rd L 6 = n := ⟨(rd L 6).toNat, by omega⟩
    obtain ⟨n7, e7⟩ : ∃ n : Nat, rd L 7 = n := ⟨(rd L 7).toNat, by omega⟩
    obtain ⟨sa, sa1, sa2⟩ := small (rd L 0) (rd L 1) (rd L 2) r0 r1 r2
    obtain ⟨sb, sb1, sb2⟩ := small (rd L 3) (rd L 4) (rd L 5) r3 r4 r5
    rw [sa, sb]
    generalize rd L 0 * rd L 1 - rd L 2 = a at *
    generalize rd L 3 * rd L 4 - rd L 5 = b at *
    rw [e6] at r6
    rw [e7] at r7
    rw [e6, e7]
    clear r0 r1 r2 r3 r4 r5 hr hx e6 e7 sa sb
    have hw1 : wrap64 (a + b) = a + b := w64 (by omega) (by omega)
    have hw2 : wrap64 (a - b) = a - b := w64 (by omega) (by omega)
    have hw3 : wrap64 ((n6 : Int) + n7) = ((n6 + n7 : Nat) : Int) := by rw [w64 (by omega) (by omega)]; rfl
    have wa := whole_eq a (by omega) (by omega)
    have wb := whole_eq b (by omega) (by omega)
    have ws := whole_eq (a + b) (by omega) (by omega)
    have wd := whole_eq (a - b) (by omega) (by omega)
    have p6 := part_eq n6 (by omega)
    have p7 := part_eq n7 (by omega)
    have p67 := part_eq (n6 + n7) (by omega)
    have i1 := impl_Add_eq _ _ (from_lt a) (from_lt b)
    rw [from_add a b (by omega) (by omega) (by omega) (by omega)] at i1
    have i2 := impl_Sub_eq _ _ (from_lt a) (from_lt b)
    rw [from_sub a b (by omega) (by omega) (by omega) (by omega)] at i2
    have i3 := impl_Add_eq _ _ (part_lt n6) (part_lt n7)
    rw [part_add n6 n7 (by omega) (by omega)] at i3
    rw [hw1, hw2, hw3]
    refine ev_if (by omega) (ev_if (by omega) (ev_if (by omega) (ev_if (by omega) (ev_if (by omega) (ev_if (by omega) ?_)))))
    refine Ev.bind wa (Ev.bind wb (Ev.bind (ev_const i1) (Ev.bind wa (Ev.bind wb (Ev.bind (ev_const i2) ?_)))))
    refine ev_if (by omega) (Ev.bind p6 (ev_if (by omega) (Ev.bind p7 (Ev.bind (ev_const i3) (Ev.bind ws (ev_if rfl (Ev.bind wd (ev_if rfl (Ev.bind p67 ?_)))))))))
    rw [beq_self_eq_true]
    exact Ev.now true
end
end Go.Proofs.Ytkkohiflkhicpaa.Pure
