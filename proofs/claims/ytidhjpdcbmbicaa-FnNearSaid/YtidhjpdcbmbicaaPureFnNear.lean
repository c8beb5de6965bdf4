/- What a drawn sum loses is told just by the difference of its parts, and it is half a place of the sum at most. No condition but the statement's own. -/
import Derived.Test.YtidhjpdcbmbicaaMFnNearx6
import Derived.Test.YtidhjpdcbmbicaaCW
namespace Go.Proofs.Ytidhjpdcbmbicaa.Pure
open Go.RowKit Go.Proofs.Ytidhjpdcbmbicaa.MFnNear Go.Proofs.YtidhjpdcbmbicaaW.PrintWords Go.Proofs.YtidhjpdcbmbicaaW.PrintLast Go.Proofs.Ytidhjpdcbmbicaa.CB
/-- The eight lowest bits. -/
theorem and_low255 (x : Int) : 0 ≤ Go.bits .and .i64 x 255 ∧ Go.bits .and .i64 x 255 ≤ 255 := by
  have e : Go.bits .and .i64 x 255 = wrap64 (((BitVec.ofInt 64 x).toNat &&& 255 : Nat) : Int) := by
    simp only [Go.bits, wi64]
    show wrap64 (((BitVec.ofInt 64 x &&& BitVec.ofInt 64 255).toNat : Int)) = _
    rw [BitVec.toNat_and]
    rfl
  have h : (BitVec.ofInt 64 x).toNat &&& 255 ≤ 255 := Nat.and_le_right
  rw [e, w64 (by omega) (by omega)]
  omega
/-- One byte drawn. -/
theorem spec_byte (l : List Int) (i h : Int) (hl : l.length ≤ 140737488351232) (hi : 0 ≤ i) : ∃ v i' h', spec_l01Byte.f l i h = some (v, i', h') ∧ (0 ≤ v ∧ v ≤ 255) ∧ 0 ≤ i' := by
  unfold spec_l01Byte.f
  by_cases h1 : i < (l.length : Int)
  · rw [if_pos h1, if_pos hi]
    refine ⟨_, _, _, rfl, and_low255 _, ?_⟩
    rw [w64 (by omega) (by omega)]
    omega
  · rw [if_neg h1]
    exact ⟨_, _, _, rfl, and_low255 _, hi⟩
/-- A number below a bound drawn. -/
theorem spec_below (l : List Int) (i h n : Int) (hl : l.length ≤ 140737488351232) (hi : 0 ≤ i) (hn : 0 < n) : ∃ v i' h', spec_l01Below.f l i h n = some (v, i', h') ∧ (0 ≤ v ∧ v < n) ∧ 0 ≤ i' := by
  unfold spec_l01Below.f
  rw [if_neg (by omega)]
  by_cases h1 : n ≤ 256
  · rw [if_pos h1]
    obtain ⟨v, i', h', e, hv, hi'⟩ := spec_byte l i h hl hi
    rw [e]
    simp only [Option.bind_some]
    rw [if_neg (by omega), tmodN hv.1]
    exact ⟨_, _, _, rfl, ⟨Int.emod_nonneg _ (by omega), Int.emod_lt_of_pos _ hn⟩, hi'⟩
  · rw [if_neg h1]
    obtain ⟨v1, i1, h1, e1, r1, p1⟩ := spec_byte l i h hl hi
    obtain ⟨v2, i2, h2, e2, r2, p2⟩ := spec_byte l i1 h1 hl p1
    obtain ⟨v3, i3, h3, e3, r3, p3⟩ := spec_byte l i2 h2 hl p2
    obtain ⟨v4, i4, h4, e4, r4, p4⟩ := spec_byte l i3 h3 hl p3
    rw [e1]
    simp only [Option.bind_some]
    rw [e2]
    simp only [Option.bind_some]
    rw [e3]
    simp only [Option.bind_some]
    rw [e4]
    simp only [Option.bind_some]
    rw [if_neg (by omega), w64 (x := v1 * 16777216) (by omega) (by omega), w64 (x := v2 * 65536) (by omega) (by omega), w64 (x := v3 * 256) (by omega) (by omega), w64 (x := v1 * 16777216 + v2 * 65536) (by omega) (by omega), w64 (x := v1 * 16777216 + v2 * 65536 + v3 * 256) (by omega) (by omega), w64 (by omega) (by omega), tmodN (by omega)]
    exact ⟨_, _, _, rfl, ⟨Int.emod_nonneg _ (by omega), Int.emod_lt_of_pos _ hn⟩, p4⟩
theorem spec_new_l0 (l : List Int) (_hl : l.length ≤ 140737488351232) : ∀ (d i : Nat) (x : Int), 4000 - i = d → i ≤ 4000 → ∃ h, Ev (fun k => spec_l01New.l0 k l x (i : Int)) (l, 0, h) := by
  have hr : ∀ (k i : Nat) (x : Int), spec_l01New.l0 (k + 1) l x (i : Int) = if (i : Int) < (l.length : Int) then (if (i : Int) < 4000 then (if 0 ≤ (i : Int) then (spec_l01New.l0 k l (Go.bits .and .i64 (wrap64 ((wrap64 ((wrap64 (x * 131)) + (wrap64 (rd l i)))) + 7)) 1073741823) (wrap64 ((i : Int) + 1))) else (none)) else (some (l, 0, x))) else (some (l, 0, x)) := fun _ _ _ => rfl
  intro d
  induction d with
  | zero =>
    intro i x hd hi
    refine ⟨x, Ev.step (f := fun _ => some (l, 0, x)) (fun k => ?_) (Ev.now _)⟩
    rw [hr]
    split
    · rw [if_neg (by omega)]
    · rfl
  | succ d ih =>
    intro i x hd hi
    by_cases h1 : i < l.length
    · obtain ⟨h, e⟩ := ih (i + 1) (Go.bits .and .i64 (wrap64 ((wrap64 ((wrap64 (x * 131)) + (wrap64 (rd l i)))) + 7)) 1073741823) (by omega) (by omega)
      exact ⟨h, Ev.step (fun k => by rw [hr, if_pos (by omega), if_pos (by omega), if_pos (by omega), w64s (by omega)]) e⟩
    · exact ⟨x, Ev.step (f := fun _ => some (l, 0, x)) (fun k => by rw [hr, if_neg (by omega)]) (Ev.now _)⟩
/-- A source of draws made. -/
theorem spec_new (l : List Int) (hl : l.length ≤ 140737488351232) : ∃ h, Ev (fun k => spec_l01New.f k l) (l, 0, h) := spec_new_l0 l hl 4000 0 _ (by omega) (by omega)
theorem spec_once (l : List Int) (i h n : Int) (hl : l.length ≤ 140737488351232) (hi : 0 ≤ i) (hn : 0 < n) : ∃ (b : Bool) (i' h' : Int), spec_l01Once.f l i h n = some (b, i', h') ∧ 0 ≤ i' := by
  obtain ⟨v, i', h', e, _, p⟩ := spec_below l i h n hl hi hn
  refine ⟨v == 0, i', h', ?_, p⟩
  unfold spec_l01Once.f
  rw [e]
  rfl
/-- The exponent within its bounds. -/
def clampE (E : Int) : Int := max (-5000) (min E 5000)
open Go.Proofs.Ytidhjpdcbmbicaa.CR in
/-- What RoundTo tells. -/
def roundT (b : Bool) (M : Nat) (E : Int) (more : Bool) : Nat := if M = 0 then enc b 0 else nearS b M (clampE E) (more && decide (72057594037927936 ≤ M))
theorem spec_pow_l0 (n : Nat) (hn : n ≤ 63) : ∀ (d i : Nat), n - i = d → i ≤ n → Ev (fun k => spec_l03Pow.l0 k (n : Int) ((2 ^ i : Nat) : Int) (i : Int)) ((2 ^ n : Nat) : Int) := by
  intro d
  induction d with
  | zero =>
    intro i hd hi
    obtain rfl : i = n := by omega
    exact Ev.step (f := fun _ => some ((2 ^ i : Nat) : Int)) (fun k => by simp only [spec_l03Pow.l0]; rw [if_neg (by omega)]) (Ev.now _)
  | succ d ih =>
    intro i hd hi
    refine Ev.step (fun k => ?_) (ih (i + 1) (by omega) (by omega))
    simp only [spec_l03Pow.l0]
    have hp : 2 ^ (i + 1) ≤ 2 ^ 63 := Nat.pow_le_pow_right (by omega) (by omega)
    rw [if_pos (by omega), wu64, w64 (by omega) (by omega)]
    rw [Nat.pow_succ] at hp
    rw [show ((2 ^ i : Nat) : Int) * 2 % 18446744073709551616 = ((2 ^ (i + 1) : Nat) : Int) by rw [Nat.pow_succ]; omega]
    rfl
theorem spec_pow (n : Nat) (hn : n ≤ 63) : Ev (fun k => spec_l03Pow.f k (n : Int)) ((2 ^ n : Nat) : Int) := by
  unfold spec_l03Pow.f; exact spec_pow_l0 n hn n 0 (by omega) (by omega)
theorem spec_pow63 : Ev (fun k => spec_l03Pow.f k 63) 9223372036854775808 := spec_pow 63 (by omega)
open Go.Proofs.Ytidhjpdcbmbicaa.CR in
theorem spec_sign (r : Nat) (b : Bool) (hr : r < 9223372036854775808) : Ev (fun k => spec_l03Sign.f k (r : Int) b) ((enc b r : Nat) : Int) := by
  unfold spec_l03Sign.f
  cases b
  · exact Ev.now _
  · simp only [if_true]
    refine Ev.bind spec_pow63 ?_
    rw [wu64, show ((r : Int) + 9223372036854775808) % 18446744073709551616 = ((enc true r : Nat) : Int) by unfold enc; rw [if_pos rfl]; omega]
    exact Ev.now _
open Go.Proofs.Ytidhjpdcbmbicaa.CR in
theorem spec_pack_j9 (b : Bool) (last : Int) (m : Nat) (h0 : -1074 ≤ last) (h1 : last ≤ 10000) (hm : m < 9007199254740992) (hn : last ≠ -1074 → 4503599627370496 ≤ m) :
    Ev (fun k => spec_RoundTo.j9 k b (m : Int) last) ((packN b last m : Nat) : Int) := by
  have hj : ∀ (k : Nat) (x1 x2 : Int), spec_RoundTo.j9 (k + 1) b x1 x2 = if x1 < 4503599627370496 then ((spec_l03Sign.f k x1 b).bind fun t104 => (some t104)) else (if x2 > 971 then ((spec_l03Sign.f k 9218868437227405312 b).bind fun t105 => (some t105)) else ((spec_l03Sign.f k (IntKind.u64.wrap ((IntKind.u64.wrap (x1 - 4503599627370496)) + (IntKind.u64.wrap ((IntKind.u64.wrap (wrap64 (x2 + 1075))) * 4503599627370496)))) b).bind fun t106 => (some t106))) := fun _ _ _ => rfl
  by_cases h3 : m < 4503599627370496
  · have hl : last = -1074 := by
      rcases Int.lt_or_eq_of_le h0 with h | h
      · have := hn (by omega); omega
      · exact h.symm
    subst hl
    have e : packN b (-1074) m = enc b m := by
      unfold packN
      rw [Nat.min_eq_left (by omega), show (-1074 + 1074 : Int).toNat * 4503599627370496 + m = m by omega]
    rw [e]
    exact Ev.step (fun k => by rw [hj, if_pos (by omega)]) (Ev.bind (spec_sign m b (by omega)) (Ev.now _))
  · by_cases h2 : last > 971
    · have e : packN b last m = enc b 9218868437227405312 := by
        unfold packN
        rw [Nat.min_eq_right (by omega)]
      rw [e]
      have hs : Ev (fun k => spec_l03Sign.f k 9218868437227405312 b) ((enc b 9218868437227405312 : Nat) : Int) := spec_sign 9218868437227405312 b (by omega)
      exact Ev.step (fun k => by rw [hj, if_neg (by omega), if_pos h2]) (Ev.bind hs (Ev.now _))
    · have e : packN b last m = enc b (m - 4503599627370496 + (last + 1075).toNat * 4503599627370496) := by
        unfold packN
        rw [Nat.min_eq_left (by omega)]
        exact congrArg (enc b) (by omega)
      rw [e]
      refine Ev.step (fun k => ?_) (Ev.bind (spec_sign (m - 4503599627370496 + (last + 1075).toNat * 4503599627370496) b (by omega)) (Ev.now _))
      rw [hj, if_neg (by omega), if_neg h2, w64 (x := last + 1075) (by omega) (by omega), wu64, wu64, wu64, wu64,
        show (((m : Int) - 4503599627370496) % 18446744073709551616 + (last + 1075) % 18446744073709551616 * 4503599627370496 % 18446744073709551616) % 18446744073709551616 = ((m - 4503599627370496 + (last + 1075).toNat * 4503599627370496 : Nat) : Int) by omega]
open Go.Proofs.Ytidhjpdcbmbicaa.CR in
theorem spec_pack_j8 (b : Bool) (last : Int) (m : Nat) (h0 : -1074 ≤ last) (h1 : last ≤ 9000) (hm : m ≤ 9007199254740992) (hn : last ≠ -1074 → 4503599627370496 ≤ m) :
    Ev (fun k => spec_RoundTo.j8 k b (m : Int) last) ((packN b last m : Nat) : Int) := by
  have hj : ∀ (k : Nat) (x1 x2 : Int), spec_RoundTo.j8 (k + 1) b x1 x2 = if x1 = 9007199254740992 then (spec_RoundTo.j9 k b 4503599627370496 (wrap64 (x2 + 1))) else (spec_RoundTo.j9 k b x1 x2) := fun _ _ _ => rfl
  by_cases h2 : m = 9007199254740992
  · subst h2
    have e : packN b last 9007199254740992 = packN b (last + 1) 4503599627370496 := by
      unfold packN
      rw [show (last + 1074).toNat * 4503599627370496 + 9007199254740992 = (last + 1 + 1074).toNat * 4503599627370496 + 4503599627370496 by omega]
    rw [e]
    refine Ev.step (fun k => ?_) (spec_pack_j9 b (last + 1) 4503599627370496 (by omega) (by omega) (by omega) (fun _ => by omega))
    rw [hj, if_pos (by omega), w64 (by omega) (by omega)]
    rfl
  · exact Ev.step (fun k => by rw [hj, if_neg (by omega)]) (spec_pack_j9 b last m h0 (by omega) (by omega) hn)
open Go.Proofs.Ytidhjpdcbmbicaa.CR in
theorem spec_pack_j7 (b : Bool) (last : Int) (m : Nat) (z : Bool) (h0 : -1074 ≤ last) (h1 : last ≤ 9000) (hm : m + z.toNat ≤ 9007199254740992) (hn : last ≠ -1074 → 4503599627370496 ≤ m) :
    Ev (fun k => spec_RoundTo.j7 k b (m : Int) last z) ((packN b last (m + z.toNat) : Nat) : Int) := by
  have hj : ∀ (k : Nat) (x1 x2 : Int) (z : Bool), spec_RoundTo.j7 (k + 1) b x1 x2 z = if z = true then (spec_RoundTo.j8 k b (IntKind.u64.wrap (x1 + 1)) x2) else (spec_RoundTo.j8 k b x1 x2) := fun _ _ _ _ => rfl
  cases z
  · exact Ev.step (fun k => by rw [hj, if_neg (by simp)]) (spec_pack_j8 b last m h0 h1 (by simpa using hm) hn)
  · refine Ev.step (fun k => ?_) (spec_pack_j8 b last (m + 1) h0 h1 (by simpa using hm) (fun h => by have := hn h; omega))
    have hm' : m + 1 ≤ 9007199254740992 := by simpa using hm
    rw [hj, if_pos rfl, wu64, show ((m : Int) + 1) % 18446744073709551616 = ((m + 1 : Nat) : Int) by omega]
/-- The half and the rest of a number, so many bits of which are left out. -/
def halfB (M j : Nat) : Bool := decide (1 ≤ j ∧ M / 2 ^ (j - 1) % 2 = 1)
def restB (st : Bool) (M j : Nat) : Bool := st || decide (1 ≤ j ∧ M % 2 ^ (j - 1) ≠ 0)
open Go.Proofs.Ytidhjpdcbmbicaa.CR in
/-- The half and the rest round as they should. -/
theorem round_bits (st : Bool) (M d : Nat) (hst : st = true → 1 ≤ d) : M / 2 ^ d + (halfB M d && (restB st M d || (M / 2 ^ d % 2 == 1))).toNat = if st then rneS M d else rne M d := by
  cases d with
  | zero =>
    have e : halfB M 0 = false := by unfold halfB; exact decide_eq_false (by omega)
    rw [e]
    cases st
    · rw [rne_zero]; simp
    · have := hst rfl; omega
  | succ c =>
    have e2 : (2 : Nat) ^ (c + 1) = 2 * 2 ^ c := by rw [Nat.pow_succ]; omega
    have hmod : M % 2 ^ (c + 1) = M % 2 ^ c + 2 ^ c * (M / 2 ^ c % 2) := Nat.mod_pow_succ
    have hlt : M % 2 ^ c < 2 ^ c := Nat.mod_lt _ (Nat.pow_pos (by omega))
    unfold rneS rne halfB restB
    rw [show c + 1 - 1 = c by omega, hmod, e2]
    generalize M / (2 * 2 ^ c) = q
    have hb : M / 2 ^ c % 2 = 0 ∨ M / 2 ^ c % 2 = 1 := by omega
    generalize M / 2 ^ c % 2 = h at *
    generalize M % 2 ^ c = r at *
    generalize 2 ^ c = p at *
    rcases hb with rfl | rfl
    · rw [Nat.mul_zero, Nat.add_zero]
      have e : decide (1 ≤ c + 1 ∧ 0 = 1) = false := decide_eq_false (by omega)
      rw [e]
      cases st
      · rw [if_neg (by simp), if_neg (by omega)]; rfl
      · rw [if_pos rfl, if_neg (by omega)]; rfl
    · rw [Nat.mul_one]
      have e : decide (1 ≤ c + 1 ∧ 1 = 1) = true := decide_eq_true (by omega)
      rw [e, Bool.true_and]
      cases st
      · rw [if_neg (by simp)]
        by_cases h0 : r = 0
        · subst h0
          have e3 : decide (1 ≤ c + 1 ∧ 0 ≠ 0) = false := decide_eq_false (by omega)
          rw [e3, Bool.false_or, Bool.false_or]
          by_cases h1 : q % 2 = 1
          · rw [if_pos (.inr (by omega)), show (q % 2 == 1) = true by simpa using h1]; rfl
          · rw [if_neg (by omega), show (q % 2 == 1) = false by simpa using h1]; rfl
        · have e3 : decide (1 ≤ c + 1 ∧ r ≠ 0) = true := decide_eq_true (by omega)
          rw [e3, if_pos (.inl (by omega))]; rfl
      · rw [if_pos rfl, if_pos (by omega)]; rfl
theorem half_next (M j : Nat) : halfB M (j + 1) = (M / 2 ^ j % 2 == 1) := by
  unfold halfB
  rw [show j + 1 - 1 = j by omega]
  by_cases h : M / 2 ^ j % 2 = 1
  · rw [decide_eq_true (by omega)]; exact (beq_iff_eq.mpr h).symm
  · rw [decide_eq_false (by omega)]; exact (beq_eq_false_iff_ne.mpr h).symm
theorem rest_next (st : Bool) (M j : Nat) : restB st M (j + 1) = (restB st M j || halfB M j) := by
  unfold restB halfB
  rw [show j + 1 - 1 = j by omega]
  cases st
  · simp only [Bool.false_or]
    cases j with
    | zero => simp [Nat.mod_one]
    | succ c =>
      rw [show c + 1 - 1 = c by omega, Nat.mod_pow_succ]
      have hp : 0 < 2 ^ c := Nat.pow_pos (by omega)
      generalize M % 2 ^ c = r
      have hb : M / 2 ^ c % 2 = 0 ∨ M / 2 ^ c % 2 = 1 := by omega
      generalize M / 2 ^ c % 2 = h at *
      generalize 2 ^ c = p at *
      rcases hb with rfl | rfl
      · rw [Nat.mul_zero, Nat.add_zero]; simp
      · rw [Nat.mul_one]; simp; omega
  · simp
theorem spec_l1_done (k : Nat) (b : Bool) (m : Int) (e : Int) (h r : Bool) (h1 : ¬ m ≥ 9007199254740992) (h2 : -1074 ≤ e) : spec_RoundTo.l1 (k + 2) b m e h r = spec_RoundTo.j7 k b m e (h && (r || (Int.tmod m 2 == 1))) := by
  have hj6 : ∀ (k : Nat), spec_RoundTo.j6 (k + 1) b m e h r false = (if h = true then (if r = true then (spec_RoundTo.j7 k b m e true) else (spec_RoundTo.j7 k b m e ((Int.tmod m 2) == 1))) else (spec_RoundTo.j7 k b m e false)) := fun _ => rfl
  have hl : ∀ (k : Nat), spec_RoundTo.l1 (k + 1) b m e h r = if m ≥ 9007199254740992 then (spec_RoundTo.j6 k b m e h r true) else (spec_RoundTo.j6 k b m e h r (decide (e < (-1074)))) := fun _ => rfl
  rw [hl, if_neg h1, decide_eq_false (by omega), hj6]
  cases h <;> cases r <;> rfl
theorem spec_l1_next (k : Nat) (b : Bool) (m : Nat) (e : Int) (h r : Bool) (hm : m < 18446744073709551616) (he : -30000 ≤ e ∧ e ≤ 30000) (hc : m ≥ 9007199254740992 ∨ e < -1074) :
    spec_RoundTo.l1 (k + 2) b (m : Int) e h r = if m / 2 = 0 ∧ e + 1 < -1074 then spec_RoundTo.l1 k b 0 (-1074) false ((r || h) || (m % 2 == 1)) else spec_RoundTo.l1 k b ((m / 2 : Nat) : Int) (e + 1) (m % 2 == 1) (r || h) := by
  have hj6 : ∀ (k : Nat), spec_RoundTo.j6 (k + 1) b (m : Int) e h r true = if r = true then (if (IntKind.u64.wrap (Int.tdiv (m : Int) 2)) = 0 then (if (wrap64 (e + 1)) < (-1074) then (spec_RoundTo.l1 k b (IntKind.u64.wrap (Int.tdiv (m : Int) 2)) (-1074) false true) else (spec_RoundTo.l1 k b (IntKind.u64.wrap (Int.tdiv (m : Int) 2)) (wrap64 (e + 1)) ((Int.tmod (m : Int) 2) == 1) true)) else (spec_RoundTo.l1 k b (IntKind.u64.wrap (Int.tdiv (m : Int) 2)) (wrap64 (e + 1)) ((Int.tmod (m : Int) 2) == 1) true)) else (if (IntKind.u64.wrap (Int.tdiv (m : Int) 2)) = 0 then (if (wrap64 (e + 1)) < (-1074) then (if h = true then (spec_RoundTo.l1 k b (IntKind.u64.wrap (Int.tdiv (m : Int) 2)) (-1074) false true) else (spec_RoundTo.l1 k b (IntKind.u64.wrap (Int.tdiv (m : Int) 2)) (-1074) false ((Int.tmod (m : Int) 2) == 1))) else (spec_RoundTo.l1 k b (IntKind.u64.wrap (Int.tdiv (m : Int) 2)) (wrap64 (e + 1)) ((Int.tmod (m : Int) 2) == 1) h)) else (spec_RoundTo.l1 k b (IntKind.u64.wrap (Int.tdiv (m : Int) 2)) (wrap64 (e + 1)) ((Int.tmod (m : Int) 2) == 1) h)) := fun _ => rfl
  have hl : ∀ (k : Nat), spec_RoundTo.l1 (k + 1) b (m : Int) e h r = if (m : Int) ≥ 9007199254740992 then (spec_RoundTo.j6 k b (m : Int) e h r true) else (spec_RoundTo.j6 k b (m : Int) e h r (decide (e < (-1074)))) := fun _ => rfl
  have e0 : spec_RoundTo.l1 (k + 2) b (m : Int) e h r = spec_RoundTo.j6 (k + 1) b (m : Int) e h r true := by
    rw [hl]
    by_cases h1 : (m : Int) ≥ 9007199254740992
    · rw [if_pos h1]
    · rw [if_neg h1, decide_eq_true (by omega)]
  have e1 : IntKind.u64.wrap (Int.tdiv (m : Int) 2) = ((m / 2 : Nat) : Int) := by rw [wu64, tdivN (Int.natCast_nonneg m)]; omega
  have e2 : ((Int.tmod (m : Int) 2) == 1) = (m % 2 == 1) := by
    rw [tmodN (Int.natCast_nonneg m), Bool.eq_iff_iff]; simp; omega
  have e3 : wrap64 (e + 1) = e + 1 := w64 (by omega) (by omega)
  rw [e0, hj6, e1, e2, e3]
  clear hj6 hl e0 e1 e2 e3
  by_cases h0 : m / 2 = 0
  · have h0' : ((m / 2 : Nat) : Int) = 0 := by omega
    rw [h0']
    by_cases h1 : e + 1 < -1074
    · simp only [if_pos h1, if_pos (show m / 2 = 0 ∧ e + 1 < -1074 from ⟨h0, h1⟩)]
      cases r <;> cases h <;> rfl
    · simp only [if_neg h1, if_neg (show ¬ (m / 2 = 0 ∧ e + 1 < -1074) from fun hh => h1 hh.2)]
      cases r <;> cases h <;> rfl
  · have h0' : ¬ ((m / 2 : Nat) : Int) = 0 := by omega
    simp only [if_neg h0', if_neg (show ¬ (m / 2 = 0 ∧ e + 1 < -1074) from fun hh => h0 hh.1)]
    cases r <;> cases h <;> rfl
open Go.Proofs.Ytidhjpdcbmbicaa.CR in
theorem spec_l1_run (b st : Bool) (M : Nat) (E : Int) (D : Nat) (_h0 : M ≠ 0) (hM : M < 18446744073709551616) (hE : -5000 ≤ E ∧ E ≤ 5000) (hst : st = true → 1 ≤ D) (hD0 : -1074 ≤ E + D) (hD1 : M < 2 ^ (53 + D)) (hD2 : D < 10000) (hD3 : E + D ≤ 9000) (hstep : ∀ j, j < D → 2 ^ (53 + j) ≤ M ∨ E + j < -1074)
    (hn : E + D ≠ -1074 → 4503599627370496 ≤ M / 2 ^ D) :
    ∀ (d j : Nat), D - j = d → j ≤ D → Ev (fun k => spec_RoundTo.l1 k b ((M / 2 ^ j : Nat) : Int) (E + j) (halfB M j) (restB st M j)) ((packN b (E + D) (if st then rneS M D else rne M D) : Nat) : Int) := by
  intro d
  induction d with
  | zero =>
    intro j hd hj
    obtain rfl : j = D := by omega
    have hq : M / 2 ^ j < 9007199254740992 := Nat.div_lt_of_lt_mul (by rw [show (9007199254740992 : Nat) = 2 ^ 53 from rfl, ← Nat.pow_add, Nat.add_comm]; exact hD1)
    have hb := round_bits st M j hst
    rw [← hb]
    refine Ev.step (f := fun k => spec_RoundTo.l1 (k + 1) b ((M / 2 ^ j : Nat) : Int) (E + j) (halfB M j) (restB st M j)) (fun _ => rfl) ?_
    have ht : (Int.tmod ((M / 2 ^ j : Nat) : Int) 2 == 1) = (M / 2 ^ j % 2 == 1) := by
      rw [tmodN (Int.natCast_nonneg _), Bool.eq_iff_iff]
      generalize M / 2 ^ j = q
      simp; omega
    generalize hz : (halfB M j && (restB st M j || (M / 2 ^ j % 2 == 1))) = z
    have hz1 : z.toNat ≤ 1 := by cases z <;> decide
    refine Ev.step (fun k => ?_) (spec_pack_j7 b (E + j) (M / 2 ^ j) z hD0 hD3 (by omega) hn)
    rw [spec_l1_done k b _ _ _ _ (by omega) hD0, ht, hz]
  | succ d ih =>
    intro j hd hj
    have hc := hstep j (by omega)
    have hle : M / 2 ^ j ≤ M := Nat.div_le_self _ _
    have hdiv : M / 2 ^ j / 2 = M / 2 ^ (j + 1) := by rw [Nat.div_div_eq_div_mul, ← Nat.pow_succ]
    have hcond : M / 2 ^ j ≥ 9007199254740992 ∨ E + (j : Int) < -1074 := by
      rcases hc with h | h
      · left
        exact (Nat.le_div_iff_mul_le (Nat.pow_pos (by omega))).2 (by rw [show (9007199254740992 : Nat) = 2 ^ 53 from rfl, ← Nat.pow_add]; exact h)
      · right; exact h
    have hnx : ∀ k, spec_RoundTo.l1 (k + 2) b ((M / 2 ^ j : Nat) : Int) (E + j) (halfB M j) (restB st M j) = if M / 2 ^ j / 2 = 0 ∧ E + j + 1 < -1074 then spec_RoundTo.l1 k b 0 (-1074) false ((restB st M j || halfB M j) || (M / 2 ^ j % 2 == 1)) else spec_RoundTo.l1 k b ((M / 2 ^ j / 2 : Nat) : Int) (E + j + 1) (M / 2 ^ j % 2 == 1) (restB st M j || halfB M j) :=
      fun k => spec_l1_next k b (M / 2 ^ j) (E + j) _ _ (by omega) (by omega) hcond
    refine Ev.step (f := fun k => spec_RoundTo.l1 (k + 1) b ((M / 2 ^ j : Nat) : Int) (E + j) (halfB M j) (restB st M j)) (fun _ => rfl) ?_
    by_cases hz : M / 2 ^ j / 2 = 0 ∧ E + j + 1 < -1074
    · -- nothing is left of it
      have hz1 := hz.1
      rw [hdiv] at hz1
      have hlt : M < 2 ^ (j + 1) := by
        rcases Nat.lt_or_ge M (2 ^ (j + 1)) with h | h
        · exact h
        · have := Nat.div_pos h (Nat.pow_pos (n := j + 1) (show 0 < 2 by omega)); omega
      have hDj : j + 2 ≤ D := by omega
      have hp : 2 ^ (j + 2) ≤ 2 ^ D := Nat.pow_le_pow_right (by omega) hDj
      have hp2 : (2 : Nat) ^ (j + 2) = 2 * 2 ^ (j + 1) := by rw [Nat.pow_succ 2 (j + 1)]; omega
      have hS : rneS M D = 0 := by
        unfold rneS
        generalize 2 ^ D = q at *
        generalize 2 ^ (j + 2) = u at *
        generalize 2 ^ (j + 1) = v at *
        rw [Nat.div_eq_of_lt (show M < q by omega), Nat.mod_eq_of_lt (show M < q by omega), if_neg (by omega)]
      have hR : rne M D = 0 := by
        unfold rne
        generalize 2 ^ D = q at *
        generalize 2 ^ (j + 2) = u at *
        generalize 2 ^ (j + 1) = v at *
        rw [Nat.div_eq_of_lt (show M < q by omega), Nat.mod_eq_of_lt (show M < q by omega), if_neg (by omega)]
      have hz2 : (if st then rneS M D else rne M D) = 0 := by rw [hS, hR]; cases st <;> rfl
      rw [hz2]
      have hq0 : M / 2 ^ D = 0 := Nat.div_eq_of_lt (by
        generalize 2 ^ D = q at *
        generalize 2 ^ (j + 2) = u at *
        generalize 2 ^ (j + 1) = v at *
        omega)
      have hED : E + D = -1074 := by
        rcases Classical.em (E + D = -1074) with h | h
        · exact h
        · have := hn h; omega
      rw [hED]
      refine Ev.step (f := fun k => spec_RoundTo.l1 k b 0 (-1074) false ((restB st M j || halfB M j) || (M / 2 ^ j % 2 == 1))) (fun k => by rw [hnx k, if_pos hz]) ?_
      refine Ev.step (f := fun k => spec_RoundTo.l1 (k + 1) b 0 (-1074) false ((restB st M j || halfB M j) || (M / 2 ^ j % 2 == 1))) (fun _ => rfl) ?_
      exact Ev.step (fun k => by rw [spec_l1_done k b 0 (-1074) false _ (by omega) (by omega), Bool.false_and]; rfl) (spec_pack_j7 b (-1074) 0 false (by omega) (by omega) (by decide) (fun h => absurd rfl h))
    · have h' := ih (j + 1) (by omega) (by omega)
      rw [half_next, rest_next, ← hdiv] at h'
      refine Ev.step (fun k => ?_) h'
      rw [hnx k, if_neg hz]
      rw [show E + (j : Int) + 1 = E + ((j + 1 : Nat) : Int) by omega]
open Go.Proofs.Ytidhjpdcbmbicaa.CR in
theorem spec_l0_run (b st : Bool) (M : Nat) (E : Int) (h0 : M ≠ 0) (hM : M < 18446744073709551616) (hE : -5000 ≤ E ∧ E ≤ 5000) (r : Int) :
    ∀ (d i : Nat), (E - lastP M E).toNat - i = d → i ≤ (E - lastP M E).toNat →
    Ev (fun k => spec_RoundTo.l1 k b ((M * 2 ^ (E - lastP M E).toNat : Nat) : Int) (E - (E - lastP M E).toNat) false st) r →
    Ev (fun k => spec_RoundTo.l0 k b ((M * 2 ^ i : Nat) : Int) (E - i) st) r := by
  have hl : ∀ (k : Nat) (x1 x2 : Int), spec_RoundTo.l0 (k + 1) b x1 x2 st = if x1 < 4503599627370496 then (if x2 > (-1074) then (spec_RoundTo.l0 k b (IntKind.u64.wrap (x1 * 2)) (wrap64 (x2 - 1)) st) else (spec_RoundTo.j4 k b x1 x2 st)) else (spec_RoundTo.j4 k b x1 x2 st) := fun _ _ _ => rfl
  have hj4 : ∀ (k : Nat) (x1 x2 : Int), spec_RoundTo.j4 (k + 1) b x1 x2 st = spec_RoundTo.l1 k b x1 x2 false st := fun _ _ _ => rfl
  have hlog := log_le h0
  have hlog2 := lt_log M
  have hlogM : M.log2 < 64 := log_mono hM h0
  intro d
  induction d with
  | zero =>
    intro i hd hi h
    obtain rfl : i = (E - lastP M E).toNat := by omega
    refine Ev.step (f := fun k => spec_RoundTo.j4 k b ((M * 2 ^ (E - lastP M E).toNat : Nat) : Int) (E - (E - lastP M E).toNat) st) (fun k => ?_) (Ev.step (fun k => by rw [hj4]) h)
    rw [hl]
    by_cases h1 : ((M * 2 ^ (E - lastP M E).toNat : Nat) : Int) < 4503599627370496
    · rw [if_pos h1]
      have : ¬ (E - ((E - lastP M E).toNat : Int) > -1074) := by
        intro h2
        have h3 : M * 2 ^ (E - lastP M E).toNat < 2 ^ 52 := by
          have : (2 : Nat) ^ 52 = 4503599627370496 := rfl
          omega
        have h4 : 2 ^ (M.log2 + (E - lastP M E).toNat) ≤ M * 2 ^ (E - lastP M E).toNat := by
          rw [Nat.pow_add]; exact Nat.mul_le_mul_right _ hlog
        have h5 : M.log2 + (E - lastP M E).toNat < 52 := by
          rcases Nat.lt_or_ge (M.log2 + (E - lastP M E).toNat) 52 with h | h
          · exact h
          · have := Nat.pow_le_pow_right (n := 2) (by omega) h
            omega
        clear h1 h3 h4
        unfold lastP at *
        omega
      rw [if_neg this]
    · rw [if_neg h1]
  | succ d ih =>
    intro i hd hi h
    have h' := ih (i + 1) (by omega) (by omega) h
    refine Ev.step (fun k => ?_) h'
    have hlt : M * 2 ^ i < 4503599627370496 := by
      have h3 : M * 2 ^ i < 2 ^ (M.log2 + 1) * 2 ^ i := Nat.mul_lt_mul_of_pos_right hlog2 (Nat.pow_pos (by omega))
      rw [← Nat.pow_add] at h3
      exact Nat.lt_of_lt_of_le h3 (Nat.pow_le_pow_right (n := 2) (by omega) (show M.log2 + 1 + i ≤ 52 by unfold lastP at *; omega))
    have hgt : E - (i : Int) > -1074 := by unfold lastP at *; omega
    have e1 : M * 2 ^ (i + 1) = M * 2 ^ i * 2 := by rw [Nat.pow_succ, Nat.mul_assoc]
    rw [e1]
    generalize M * 2 ^ i = p at *
    rw [hl, if_pos (by omega), if_pos hgt, wu64, w64 (by omega) (by omega), show ((p : Nat) : Int) * 2 % 18446744073709551616 = ((p * 2 : Nat) : Int) by omega, show E - (i : Int) - 1 = E - ((i + 1 : Nat) : Int) by omega]
open Go.Proofs.Ytidhjpdcbmbicaa.CR in
theorem spec_round_l0 (b st : Bool) (M : Nat) (E : Int) (h0 : M ≠ 0) (hM : M < 18446744073709551616) (hE : -5000 ≤ E ∧ E ≤ 5000) (hst : st = true → 72057594037927936 ≤ M) :
    Ev (fun k => spec_RoundTo.l0 k b (M : Int) E st) ((nearS b M E st : Nat) : Int) := by
  have hlog := log_le h0
  have hlog2 := lt_log M
  have hlogM : M.log2 < 64 := log_mono hM h0
  have h := spec_l0_run b st M E h0 hM hE ((nearS b M E st : Nat) : Int) (E - lastP M E).toNat 0 (by omega) (by omega)
  rw [Nat.pow_zero, Nat.mul_one, show E - ((0 : Nat) : Int) = E by omega] at h
  refine h ?_
  have hlp : -1074 ≤ lastP M E ∧ lastP M E ≤ 8000 := by unfold lastP; omega
  have hlp2 : E + M.log2 - 52 ≤ lastP M E := by unfold lastP; omega
  have hlp3 : lastP M E = -1074 ∨ lastP M E = E + M.log2 - 52 := by unfold lastP; omega
  have hkr := kept_range M E h0
  by_cases hd : lastP M E > E
  · -- down
    have hres : nearS b M E st = packN b (E + ((lastP M E - E).toNat : Int)) (if st then rneS M (lastP M E - E).toNat else rne M (lastP M E - E).toNat) := by
      rw [show E + ((lastP M E - E).toNat : Int) = lastP M E by omega]
      cases st
      · unfold nearS
        rw [if_neg (by simp), if_neg (by simp), near_down b M E h0 (by omega)]
      · rw [near_st b M E (hst rfl), if_pos rfl]
    rw [hres, show (E - lastP M E).toNat = 0 by omega, Nat.pow_zero, Nat.mul_one, show E - ((0 : Nat) : Int) = E by omega]
    have hrun := spec_l1_run b st M E (lastP M E - E).toNat h0 hM hE (fun _ => by omega) (by omega)
      (Nat.lt_of_lt_of_le hlog2 (Nat.pow_le_pow_right (by omega) (by omega))) (by omega) (by omega)
      (fun j hj => by
        rcases Classical.em (E + j < -1074) with h | h
        · exact .inr h
        · left; exact Nat.le_trans (Nat.pow_le_pow_right (by omega) (by omega)) hlog)
      (fun hne => by
        have hx : lastP M E ≠ -1074 := by omega
        refine (Nat.le_div_iff_mul_le (Nat.pow_pos (by omega))).2 ?_
        rw [show (4503599627370496 : Nat) = 2 ^ 52 from rfl, ← Nat.pow_add]
        exact Nat.le_trans (Nat.pow_le_pow_right (by omega) (by omega)) hlog)
      (lastP M E - E).toNat 0 (by omega) (by omega)
    rw [Nat.pow_zero, Nat.div_one, show E + ((0 : Nat) : Int) = E by omega] at hrun
    have e1 : halfB M 0 = false := by unfold halfB; exact decide_eq_false (by omega)
    have e2 : restB st M 0 = st := by unfold restB; rw [decide_eq_false (by omega), Bool.or_false]
    rw [e1, e2] at hrun
    exact hrun
  · -- up
    have hst2 : st = false := by
      cases st
      · rfl
      · have := lastP_big M E (hst rfl); omega
    subst hst2
    have hres : nearS b M E false = packN b (lastP M E) (M * 2 ^ (E - lastP M E).toNat) := by
      unfold nearS
      rw [if_neg (by simp), near_up b M E h0 (by omega)]
    rw [show (lastP M E - E).toNat = 0 by omega, rne_zero] at hkr
    rw [hres, show E - (((E - lastP M E).toNat : Nat) : Int) = lastP M E by omega]
    generalize hm : M * 2 ^ (E - lastP M E).toNat = m at *
    rcases Nat.lt_or_ge m 9007199254740992 with hmlt | hmge
    · refine Ev.step (f := fun k => spec_RoundTo.l1 (k + 1) b (m : Int) (lastP M E) false false) (fun _ => rfl) ?_
      have hp := spec_pack_j7 b (lastP M E) m false hlp.1 (by omega) (by show m + 0 ≤ _; omega) hkr.2
      exact Ev.step (fun k => by rw [spec_l1_done k b (m : Int) (lastP M E) false false (by omega) hlp.1, Bool.false_and]) hp
    · exfalso
      have h3 : M * 2 ^ (E - lastP M E).toNat < 2 ^ (M.log2 + 1) * 2 ^ (E - lastP M E).toNat := Nat.mul_lt_mul_of_pos_right hlog2 (Nat.pow_pos (by omega))
      rw [← Nat.pow_add] at h3
      have h4 := Nat.pow_le_pow_right (n := 2) (by omega) (show M.log2 + 1 + (E - lastP M E).toNat ≤ 53 by omega)
      have h5 : (2 : Nat) ^ 53 = 9007199254740992 := rfl
      omega
open Go.Proofs.Ytidhjpdcbmbicaa.CR in
theorem spec_round (b : Bool) (M : Nat) (hM : M < 18446744073709551616) (E : Int) (more : Bool) :
    Ev (fun k => spec_RoundTo.f k b (M : Int) E more) ((roundT b M E more : Nat) : Int) := by
  have hj0 : ∀ (k : Nat) (x2 : Int), spec_RoundTo.j0 (k + 1) b (M : Int) x2 more = if x2 < (-5000) then (spec_RoundTo.j1 k b (M : Int) (-5000) more) else (spec_RoundTo.j1 k b (M : Int) x2 more) := fun _ _ => rfl
  have hj1 : ∀ (k : Nat) (x2 : Int), spec_RoundTo.j1 (k + 1) b (M : Int) x2 more = if more = true then ((spec_l03Pow.f k 56).bind fun t102 => (spec_RoundTo.j2 k b (M : Int) x2 (decide ((M : Int) ≥ t102)))) else (spec_RoundTo.j2 k b (M : Int) x2 false) := fun _ _ => rfl
  have hj2 : ∀ (k : Nat) (x2 : Int) (z : Bool), spec_RoundTo.j2 (k + 1) b (M : Int) x2 z = if (M : Int) = 0 then ((spec_l03Sign.f k 0 b).bind fun t103 => (some t103)) else (spec_RoundTo.l0 k b (M : Int) x2 z) := fun _ _ _ => rfl
  have hcr : -5000 ≤ clampE E ∧ clampE E ≤ 5000 := by unfold clampE; omega
  have k2 : ∀ z : Bool, z = (more && decide (72057594037927936 ≤ M)) → Ev (fun k => spec_RoundTo.j2 k b (M : Int) (clampE E) z) ((roundT b M E more : Nat) : Int) := by
    intro z hz
    unfold roundT
    by_cases h0 : M = 0
    · rw [if_pos h0]
      have hs : Ev (fun k => spec_l03Sign.f k 0 b) ((enc b 0 : Nat) : Int) := spec_sign 0 b (by omega)
      exact Ev.step (fun k => by rw [hj2, if_pos (by omega)]) (Ev.bind hs (Ev.now _))
    · rw [if_neg h0, ← hz]
      exact Ev.step (fun k => by rw [hj2, if_neg (by omega)]) (spec_round_l0 b z M (clampE E) h0 hM hcr (fun hh => by rw [hz] at hh; simp at hh; exact hh.2))
  have k1 : Ev (fun k => spec_RoundTo.j1 k b (M : Int) (clampE E) more) ((roundT b M E more : Nat) : Int) := by
    cases hm : more
    · rw [hm] at k2 hj1
      exact Ev.step (fun k => by rw [hj1, if_neg (by simp)]) (k2 false (by simp))
    · rw [hm] at k2 hj1
      have hp : Ev (fun k => spec_l03Pow.f k 56) ((2 ^ 56 : Nat) : Int) := spec_pow 56 (by omega)
      refine Ev.step (f := fun k => (spec_l03Pow.f k 56).bind fun t102 => spec_RoundTo.j2 k b (M : Int) (clampE E) (decide ((M : Int) ≥ t102))) (fun k => by rw [hj1, if_pos rfl]) (Ev.bind hp ?_)
      refine k2 _ ?_
      rw [Bool.true_and, decide_eq_decide]
      have : ((2 ^ 56 : Nat) : Int) = 72057594037927936 := rfl
      rw [this]; omega
  unfold spec_RoundTo.f
  by_cases h1 : E > 5000
  · simp only [if_pos h1]
    have : clampE E = 5000 := by unfold clampE; omega
    rw [this] at k1
    exact Ev.step (fun k => by rw [hj0, if_neg (by omega)]) k1
  · simp only [if_neg h1]
    by_cases h2 : E < -5000
    · have : clampE E = -5000 := by unfold clampE; omega
      rw [this] at k1
      exact Ev.step (fun k => by rw [hj0, if_pos h2]) k1
    · have : clampE E = E := by unfold clampE; omega
      rw [this] at k1
      exact Ev.step (fun k => by rw [hj0, if_neg h2]) k1
/-- The value of numbers, the lowest first, to a base. -/
def valI (B : Int) : List Int → Int
  | [] => 0
  | x :: l => x + B * valI B l
theorem valI_append (B : Int) (l m : List Int) : valI B (l ++ m) = valI B l + B ^ l.length * valI B m := by
  induction l with
  | nil => simp [valI]
  | cons x l ih =>
    simp only [List.cons_append, valI, ih, List.length_cons, Int.pow_succ]
    grind
theorem valI_set (B : Int) (v : Int) : ∀ (l : List Int) (i : Nat), i < l.length → valI B (l.set i v) = valI B l + B ^ i * (v - l.getD i 0) := by
  intro l
  induction l with
  | nil => intro i h; simp at h
  | cons x l ih =>
    intro i h
    cases i with
    | zero => simp [valI]; omega
    | succ i =>
      have := ih i (by simpa using h)
      simp only [List.set_cons_succ, valI, this, List.getD_cons_succ, Int.pow_succ]
      grind
theorem valI_take_succ (B : Int) (l : List Int) (i : Nat) (h : i < l.length) : valI B (l.take (i + 1)) = valI B (l.take i) + B ^ i * l.getD i 0 := by
  rw [List.take_succ_eq_append_getElem h, valI_append]
  have : (l.take i).length = i := by simp; omega
  rw [this]
  simp [valI, List.getD_eq_getElem?_getD, List.getElem?_eq_getElem h]
theorem valI_zeros (B : Int) (n : Nat) : valI B (List.replicate n 0) = 0 := by
  induction n with
  | zero => rfl
  | succ n ih => rw [List.replicate_succ]; simp [valI, ih]
theorem valI_split (B : Int) (l : List Int) (i : Nat) (h : i ≤ l.length) : valI B l = valI B (l.take i) + B ^ i * valI B (l.drop i) := by
  conv => lhs; rw [← List.take_append_drop i l]
  rw [valI_append]
  have : (l.take i).length = i := by simp; omega
  rw [this]
theorem valI_range (B : Int) (hB : 0 < B) (l : List Int) (h : ∀ x ∈ l, 0 ≤ x ∧ x < B) : 0 ≤ valI B l ∧ valI B l < B ^ l.length := by
  induction l with
  | nil => simp [valI]
  | cons x l ih =>
    have h1 := h x (by simp)
    have h2 := ih (fun y hy => h y (by simp [hy]))
    simp only [valI, List.length_cons, Int.pow_succ]
    have h3 : 0 ≤ B * valI B l := Int.mul_nonneg (by omega) h2.1
    have h4 : B * valI B l ≤ B * (B ^ l.length - 1) := Int.mul_le_mul_of_nonneg_left (by omega) (by omega)
    have h5 : B * (B ^ l.length - 1) = B ^ l.length * B - B := by grind
    omega
theorem rd_nat (l : List Int) (i : Nat) : rd l (i : Int) = l.getD i 0 := by unfold rd; rw [Int.toNat_natCast]
theorem getD_mem (l : List Int) (i : Nat) (h : i < l.length) : l.getD i 0 ∈ l := by
  rw [List.getD_eq_getElem?_getD, List.getElem?_eq_getElem h]; simp
theorem getD_set_eq (l : List Int) (i : Nat) (v : Int) (h : i < l.length) : (l.set i v).getD i 0 = v := by
  simp [List.getD_eq_getElem?_getD, h]
theorem getD_set_ne (l : List Int) (i j : Nat) (v : Int) (h : i ≠ j) : (l.set i v).getD j 0 = l.getD j 0 := by
  simp [List.getD_eq_getElem?_getD, List.getElem?_set_ne h]
theorem set_last (m : Nat) (z d : Int) (T : List Int) : (List.replicate (m + 1) z ++ T).set m d = List.replicate m z ++ d :: T := by
  rw [List.replicate_succ', List.append_assoc, List.set_append_right _ _ (by simp)]
  simp
theorem getD_out (l : List Int) (i : Nat) (h : l.length ≤ i) : l.getD i 0 = 0 := by rw [List.getD_eq_getElem?_getD, List.getElem?_eq_none h]; rfl
theorem getD_zeros (n j : Nat) : (List.replicate n (0 : Int)).getD j 0 = 0 := by
  by_cases h : j < n
  · rw [List.getD_eq_getElem?_getD, List.getElem?_replicate]; simp [h]
  · rw [getD_out _ _ (by simp; omega)]
open Go.Proofs.Ytidhjpdcbmbicaa.CR Ieee in
theorem near_lt (b : Bool) (M : Nat) (E : Int) : double.nearest b M E < 18446744073709551616 := by
  have he : ∀ r : Nat, r ≤ 9218868437227405312 → enc b r < 18446744073709551616 := by
    intro r hr
    unfold enc
    split <;> omega
  by_cases h : M = 0
  · subst h
    rw [near_zero]
    exact he 0 (by omega)
  · rw [near_eq b M E h]
    exact he _ (Nat.min_le_right _ _)
open Go.Proofs.Ytidhjpdcbmbicaa.CR Ieee in
theorem round_lt (b : Bool) (M : Nat) (E : Int) (more : Bool) : roundT b M E more < 18446744073709551616 := by
  unfold roundT
  split
  · unfold enc
    split <;> omega
  · unfold nearS
    split
    · exact near_lt _ _ _
    · exact near_lt _ _ _
theorem spec_fromSmall (z : Int) (h0 : -1000 ≤ z) (h1 : z ≤ 1000) : ∃ v, Ev (fun k => spec_FromInt.f k z) v ∧ (0 ≤ v ∧ v < 18446744073709551616) := by
  unfold spec_FromInt.f
  by_cases hz : z < 0
  · refine ⟨_, ?_, Int.natCast_nonneg _, Int.ofNat_lt.2 (round_lt true z.natAbs 0 false)⟩
    rw [w64 (x := -z) (by omega) (by omega), wu64, show -z % 18446744073709551616 = ((z.natAbs : Nat) : Int) by omega]
    simp only [if_neg (show ¬ z = -9223372036854775808 by omega), if_pos hz]
    exact Ev.bind (spec_round true z.natAbs (by omega) 0 false) (Ev.now _)
  · refine ⟨_, ?_, Int.natCast_nonneg _, Int.ofNat_lt.2 (round_lt false z.toNat 0 false)⟩
    rw [wu64 z, show z % 18446744073709551616 = ((z.toNat : Nat) : Int) by omega]
    simp only [if_neg (show ¬ z = -9223372036854775808 by omega), if_neg hz]
    exact Ev.bind (spec_round false z.toNat (by omega) 0 false) (Ev.now _)
theorem u64_range (x : Int) : 0 ≤ IntKind.u64.wrap x ∧ IntKind.u64.wrap x < 18446744073709551616 := by
  rw [wu64]; omega
theorem spec_bits (l : List Int) (i h : Int) (hl : l.length ≤ 140737488351232) (hi : 0 ≤ i) : ∃ v i' h', spec_l03Bits64.f l i h = some (v, i', h') ∧ (0 ≤ v ∧ v < 18446744073709551616) ∧ 0 ≤ i' := by
  obtain ⟨v1, i1, h1, e1, _, p1⟩ := spec_below l i h 4294967296 hl hi (by omega)
  obtain ⟨v2, i2, h2, e2, _, p2⟩ := spec_below l i1 h1 4294967296 hl p1 (by omega)
  refine ⟨IntKind.u64.wrap (IntKind.u64.wrap (IntKind.u64.wrap v1 * 4294967296) + IntKind.u64.wrap v2), i2, h2, ?_, u64_range _, p2⟩
  unfold spec_l03Bits64.f
  rw [e1]
  simp only [Option.bind_some]
  rw [e2]
  rfl
/-- A number's pattern drawn. -/
theorem spec_number (l : List Int) (i h : Int) (hl : l.length ≤ 140737488351232) (hi : 0 ≤ i) : ∃ v i' h', Ev (fun k => spec_l03Number.f k l i h) (v, i', h') ∧ (0 ≤ v ∧ v < 18446744073709551616) ∧ 0 ≤ i' := by
  obtain ⟨c, i1, h1, e1, r1, p1⟩ := spec_below l i h 8 hl hi (by omega)
  unfold spec_l03Number.f
  rw [e1]
  simp only [Option.bind_some]
  have hj : ∀ (k : Nat) (z : Bool), spec_l03Number.j0 (k + 1) c z l i1 h1 = if z = true then ((spec_l01Below.f l i1 h1 2000).bind fun bt152 => ((spec_FromInt.f k (wrap64 (bt152.1 - 1000))).bind fun t155 => (some (t155, bt152.2.1, bt152.2.2)))) else (if c = 3 then ((spec_l01Once.f l i1 h1 2).bind fun bt156 => ((spec_l01Below.f l bt156.2.1 bt156.2.2 1000000).bind fun bt159 => ((spec_l01Below.f l bt159.2.1 bt159.2.2 40).bind fun bt162 => ((spec_RoundTo.f k bt156.1 (IntKind.u64.wrap (bt159.1)) (wrap64 (bt162.1 - 30)) false).bind fun t165 => (some (t165, bt162.2.1, bt162.2.2)))))) else (if c = 4 then ((spec_l01Below.f l i1 h1 2048).bind fun bt166 => ((spec_l01Below.f l bt166.2.1 bt166.2.2 4).bind fun bt169 => (some (IntKind.u64.wrap ((IntKind.u64.wrap ((IntKind.u64.wrap (bt166.1)) * 4503599627370496)) + (IntKind.u64.wrap (bt169.1))), bt169.2.1, bt169.2.2)))) else (if c = 5 then ((spec_l01Once.f l i1 h1 2).bind fun bt172 => ((spec_l03Bits64.f l bt172.2.1 bt172.2.2).bind fun bt175 => ((spec_l01Below.f l bt175.2.1 bt175.2.2 120).bind fun bt178 => ((spec_RoundTo.f k bt172.1 (IntKind.u64.wrap (Int.tdiv bt175.1 2048)) (wrap64 (bt178.1 - 80)) false).bind fun t181 => (some (t181, bt178.2.1, bt178.2.2)))))) else ((spec_l03Bits64.f l i1 h1).bind fun bt182 => (some (bt182.1, bt182.2.1, bt182.2.2)))))) := fun _ _ => rfl
  have key : ∀ z : Bool, ∃ v i' h', Ev (fun k => spec_l03Number.j0 k c z l i1 h1) (v, i', h') ∧ (0 ≤ v ∧ v < 18446744073709551616) ∧ 0 ≤ i' := by
    intro z
    by_cases hz : z = true
    · obtain ⟨v2, i2, h2, e2, r2, p2⟩ := spec_below l i1 h1 2000 hl p1 (by omega)
      obtain ⟨v, hv, r⟩ := spec_fromSmall (v2 - 1000) (by omega) (by omega)
      refine ⟨v, i2, h2, Ev.step (f := fun k => (spec_FromInt.f k (v2 - 1000)).bind fun t => some (t, i2, h2)) (fun k => ?_) (Ev.bind hv (Ev.now _)), r, p2⟩
      rw [hj, if_pos hz, e2]
      simp only [Option.bind_some]
      rw [w64 (x := v2 - 1000) (by omega) (by omega)]
    by_cases h3 : c = 3
    · obtain ⟨b, i2, h2, e2, p2⟩ := spec_once l i1 h1 2 hl p1 (by omega)
      obtain ⟨v3, i3, h3', e3, r3, p3⟩ := spec_below l i2 h2 1000000 hl p2 (by omega)
      obtain ⟨v4, i4, h4, e4, r4, p4⟩ := spec_below l i3 h3' 40 hl p3 (by omega)
      refine ⟨((roundT b v3.toNat (v4 - 30) false : Nat) : Int), i4, h4, Ev.step (f := fun k => (spec_RoundTo.f k b ((v3.toNat : Nat) : Int) (v4 - 30) false).bind fun t => some (t, i4, h4)) (fun k => ?_) (Ev.bind (spec_round b v3.toNat (by omega) (v4 - 30) false) (Ev.now _)), ⟨Int.natCast_nonneg _, Int.ofNat_lt.2 (round_lt _ _ _ _)⟩, p4⟩
      rw [hj, if_neg hz, if_pos h3, e2]
      simp only [Option.bind_some]
      rw [e3]
      simp only [Option.bind_some]
      rw [e4]
      simp only [Option.bind_some]
      rw [w64 (x := v4 - 30) (by omega) (by omega), wu64, show v3 % 18446744073709551616 = ((v3.toNat : Nat) : Int) by omega]
    by_cases h4 : c = 4
    · obtain ⟨v3, i3, h3', e3, r3, p3⟩ := spec_below l i1 h1 2048 hl p1 (by omega)
      obtain ⟨v4, i4, h4', e4, r4, p4⟩ := spec_below l i3 h3' 4 hl p3 (by omega)
      refine ⟨IntKind.u64.wrap (IntKind.u64.wrap (IntKind.u64.wrap v3 * 4503599627370496) + IntKind.u64.wrap v4), i4, h4', Ev.step (fun k => ?_) (Ev.now (_, i4, h4')), u64_range _, p4⟩
      rw [hj, if_neg hz, if_neg h3, if_pos h4, e3]
      simp only [Option.bind_some]
      rw [e4]
      rfl
    by_cases h5 : c = 5
    · obtain ⟨b, i2, h2, e2, p2⟩ := spec_once l i1 h1 2 hl p1 (by omega)
      obtain ⟨v3, i3, h3', e3, r3, p3⟩ := spec_bits l i2 h2 hl p2
      obtain ⟨v4, i4, h4', e4, r4, p4⟩ := spec_below l i3 h3' 120 hl p3 (by omega)
      refine ⟨((roundT b (v3.toNat / 2048) (v4 - 80) false : Nat) : Int), i4, h4', Ev.step (f := fun k => (spec_RoundTo.f k b ((v3.toNat / 2048 : Nat) : Int) (v4 - 80) false).bind fun t => some (t, i4, h4')) (fun k => ?_) (Ev.bind (spec_round b (v3.toNat / 2048) (by omega) (v4 - 80) false) (Ev.now _)), ⟨Int.natCast_nonneg _, Int.ofNat_lt.2 (round_lt _ _ _ _)⟩, p4⟩
      rw [hj, if_neg hz, if_neg h3, if_neg h4, if_pos h5, e2]
      simp only [Option.bind_some]
      rw [e3]
      simp only [Option.bind_some]
      rw [e4]
      simp only [Option.bind_some]
      rw [w64 (x := v4 - 80) (by omega) (by omega), tdivN r3.1, wu64, show v3 / 2048 % 18446744073709551616 = ((v3.toNat / 2048 : Nat) : Int) by omega]
    · obtain ⟨v3, i3, h3', e3, r3, p3⟩ := spec_bits l i1 h1 hl p1
      refine ⟨v3, i3, h3', Ev.step (fun k => ?_) (Ev.now (v3, i3, h3')), r3, p3⟩
      rw [hj, if_neg hz, if_neg h3, if_neg h4, if_neg h5, e3]
      rfl
  by_cases h0 : c = 0
  · obtain ⟨v2, i2, h2, e2, r2, p2⟩ := spec_below l i1 h1 17 hl p1 (by omega)
    simp only [if_pos h0]
    have hall : ∀ x ∈ ([0, 9223372036854775808, 1, 2, 4503599627370495, 4503599627370496, 4503599627370497, 9218868437227405312, 9218868437227405311, 9218868437227405310, 9221120237041090560, 9221120237041090561, IntKind.u64.wrap (9218868437227405312 + 9223372036854775808), IntKind.u64.wrap (9221120237041090560 + 9223372036854775808), 9218868437227405313, 4607182418800017408, 4607182418800017409] : List Int), 0 ≤ x ∧ x < 18446744073709551616 := by decide +kernel
    refine ⟨_, i2, h2, Ev.bind spec_pow63 (Ev.bind spec_pow63 (Ev.bind spec_pow63 ?_)), hall _ (getD_mem _ v2.toNat ?_), p2⟩
    · rw [show ((([0, 9223372036854775808, 1, 2, 4503599627370495, 4503599627370496, 4503599627370497, 9218868437227405312, 9218868437227405311, 9218868437227405310, 9221120237041090560, 9221120237041090561, IntKind.u64.wrap (9218868437227405312 + 9223372036854775808), IntKind.u64.wrap (9221120237041090560 + 9223372036854775808), 9218868437227405313, 4607182418800017408, 4607182418800017409] : List Int).length : Nat) : Int) = 17 from rfl, e2]
      simp only [Option.bind_some]
      rw [if_pos r2.1, if_pos r2.2]
      exact Ev.now _
    · simp only [List.length_cons, List.length_nil]
      omega
  · simp only [if_neg h0]
    by_cases h2 : c = 1
    · simp only [if_pos h2]
      exact key _
    · simp only [if_neg h2]
      exact key _
theorem spec_numbers (l : List Int) (hl : l.length ≤ 140737488351232) : ∃ a b c : Nat, Ev (fun k => spec_DrawNumbers.f k l) ((a : Int), (b : Int), (c : Int)) ∧ a < 18446744073709551616 ∧ b < 18446744073709551616 ∧ c < 18446744073709551616 := by
  obtain ⟨h, e⟩ := spec_new l hl
  obtain ⟨v1, i1, h1, e1, r1, p1⟩ := spec_number l 0 h hl (by omega)
  obtain ⟨v2, i2, h2, e2, r2, p2⟩ := spec_number l i1 h1 hl p1
  obtain ⟨v3, i3, h3, e3, r3, p3⟩ := spec_number l i2 h2 hl p2
  refine ⟨v1.toNat, v2.toNat, v3.toNat, ?_, by omega, by omega, by omega⟩
  rw [show ((v1.toNat : Nat) : Int) = v1 by omega, show ((v2.toNat : Nat) : Int) = v2 by omega, show ((v3.toNat : Nat) : Int) = v3 by omega]
  unfold spec_DrawNumbers.f
  exact Ev.bind e (Ev.bind e1 (Ev.bind e2 (Ev.bind e3 (Ev.now _))))
theorem inU_nat (a : Nat) (h : a < 18446744073709551616) : Go.Proofs.Ytidhjpdcbmbicaa.G.inU64 (a : Int) = true := by
  unfold Go.Proofs.Ytidhjpdcbmbicaa.G.inU64
  rw [decide_eq_true (by omega), decide_eq_true (by omega)]; rfl
section
open Go.Proofs.Ytidhjpdcbmbicaa.CR Go.Proofs.Ytidhjpdcbmbicaa.CF Go.Proofs.Ytidhjpdcbmbicaa.CG Go.Proofs.Ytidhjpdcbmbicaa.CH
theorem impl_Add_eq (a b : Nat) (ha : a < 18446744073709551616) (hb : b < 18446744073709551616) : impl_Add.f (a : Int) (b : Int) = some ((addT a b : Nat) : Int) := by
  unfold impl_Add.f Go.Proofs.Ytidhjpdcbmbicaa.G.impl_Add
  rw [if_pos (inU_nat a ha), if_pos (inU_nat b hb), Int.toNat_natCast, Int.toNat_natCast]
end
/-- The parts of a number: kind, below, mantissa, exponent. -/
def partsN (x : Nat) : Int × Bool × Int × Int :=
  if 9218868437227405312 < x % 9223372036854775808 then (1, false, 0, 0)
  else if x % 9223372036854775808 = 9218868437227405312 then (2, decide (9223372036854775808 ≤ x), 0, 0)
  else if x % 9223372036854775808 = 0 then (3, decide (9223372036854775808 ≤ x), 0, 0)
  else if x % 9223372036854775808 < 4503599627370496 then (4, decide (9223372036854775808 ≤ x), ((x % 4503599627370496 : Nat) : Int), -1074)
  else (4, decide (9223372036854775808 ≤ x), ((x % 4503599627370496 + 4503599627370496 : Nat) : Int), ((x / 4503599627370496 % 2048 : Nat) : Int) - 1075)
def nanB (x : Nat) : Bool := decide (9218868437227405312 < x % 9223372036854775808)
theorem partsN_kind (x : Nat) : ((partsN x).1 == 1) = nanB x := by
  unfold partsN nanB
  split
  · rename_i h; simp [h]
  · rename_i h; rw [decide_eq_false h]; split
    · rfl
    · split
      · rfl
      · split <;> rfl
/-- The parts of a finite number. -/
theorem parts_fin (x : Nat) (_hx : x < 18446744073709551616) (h : (partsN x).1 = 4) : ∃ (b : Bool) (m : Nat) (e : Int), partsN x = (4, b, (m : Int), e) ∧ m ≠ 0 ∧ m < 9007199254740992 ∧ -1074 ≤ e ∧ e ≤ 971 ∧ (e ≠ -1074 → 4503599627370496 ≤ m) := by
  revert h
  unfold partsN
  split
  · intro h; exact absurd (show (1 : Int) = 4 from h) (by decide)
  · split
    · intro h; exact absurd (show (2 : Int) = 4 from h) (by decide)
    · split
      · intro h; exact absurd (show (3 : Int) = 4 from h) (by decide)
      · split
        · intro _; exact ⟨_, _, _, rfl, by omega, by omega, by omega, by omega, fun h => absurd rfl h⟩
        · intro _; exact ⟨_, _, _, rfl, by omega, by omega, by omega, by omega, fun _ => by omega⟩
theorem spec_parts_j1 (k : Nat) (e f : Int) (b z : Bool) : spec_PartsOfNumber.j1 (k + 1) e f z 0 b 0 0 = if z = true then some (3, b, 0, 0) else if e = 0 then some (4, b, f, (-1074)) else some (4, b, IntKind.u64.wrap (f + 4503599627370496), wrap64 (e - 1075)) := rfl
theorem spec_parts_j0 (k : Nat) (e f : Int) (b z : Bool) : spec_PartsOfNumber.j0 (k + 1) e f z 0 b 0 0 = if z = true then some (1, false, 0, 0) else if e = 2047 then some (2, b, 0, 0) else if e = 0 then spec_PartsOfNumber.j1 k e f (f == 0) 0 b 0 0 else spec_PartsOfNumber.j1 k e f false 0 b 0 0 := rfl
theorem spec_parts (x : Nat) (hx : x < 18446744073709551616) : Ev (fun k => spec_PartsOfNumber.f k (x : Int)) (partsN x) := by
  unfold spec_PartsOfNumber.f
  refine Ev.bind spec_pow63 ?_
  simp only [if_neg (show ¬ (9223372036854775808 : Int) = 0 by omega)]
  have e1 : wrap64 (Int.tmod (IntKind.u64.wrap (Int.tdiv (x : Int) 4503599627370496)) 2048) = ((x / 4503599627370496 % 2048 : Nat) : Int) := by
    rw [wu64, tdivN (Int.natCast_nonneg x), tmodN (by omega), w64 (by omega) (by omega)]; omega
  have e2 : Int.tmod (x : Int) 4503599627370496 = ((x % 4503599627370496 : Nat) : Int) := by rw [tmodN (Int.natCast_nonneg x)]; omega
  have e3 : ((IntKind.u64.wrap (Int.tdiv (x : Int) 9223372036854775808)) == 1) = decide (9223372036854775808 ≤ x) := by
    rw [wu64, tdivN (Int.natCast_nonneg x), Bool.eq_iff_iff]; simp; omega
  rw [e1, e2, e3]
  generalize hb : decide (9223372036854775808 ≤ x) = b
  have hp : partsN x = if 9218868437227405312 < x % 9223372036854775808 then (1, false, 0, 0)
    else if x % 9223372036854775808 = 9218868437227405312 then (2, b, 0, 0)
    else if x % 9223372036854775808 = 0 then (3, b, 0, 0)
    else if x % 9223372036854775808 < 4503599627370496 then (4, b, ((x % 4503599627370496 : Nat) : Int), -1074)
    else (4, b, ((x % 4503599627370496 + 4503599627370496 : Nat) : Int), ((x / 4503599627370496 % 2048 : Nat) : Int) - 1075) := by unfold partsN; rw [hb]
  rw [hp]
  by_cases h1 : x / 4503599627370496 % 2048 = 2047
  · simp only [if_pos (show ((x / 4503599627370496 % 2048 : Nat) : Int) = 2047 by omega)]
    by_cases h2 : x % 4503599627370496 = 0
    · rw [if_neg (by omega), if_pos (by omega)]
      exact Ev.step (f := fun _ => some (2, b, 0, 0)) (fun k => by rw [spec_parts_j0, if_neg (by simp [h2]), if_pos (by omega)]) (Ev.now _)
    · rw [if_pos (by omega)]
      exact Ev.step (f := fun _ => some (1, false, 0, 0)) (fun k => by rw [spec_parts_j0, if_pos (by simp; omega)]) (Ev.now _)
  · simp only [if_neg (show ¬ ((x / 4503599627370496 % 2048 : Nat) : Int) = 2047 by omega)]
    rw [if_neg (by omega), if_neg (by omega)]
    by_cases h2 : x / 4503599627370496 % 2048 = 0
    · refine Ev.step (f := fun k => spec_PartsOfNumber.j1 k ((x / 4503599627370496 % 2048 : Nat) : Int) ((x % 4503599627370496 : Nat) : Int) (((x % 4503599627370496 : Nat) : Int) == 0) 0 b 0 0) (fun k => by rw [spec_parts_j0, if_neg (by simp), if_neg (by omega), if_pos (by omega)]) ?_
      by_cases h3 : x % 4503599627370496 = 0
      · rw [if_pos (by omega)]
        exact Ev.step (f := fun _ => some (3, b, 0, 0)) (fun k => by rw [spec_parts_j1, if_pos (by simp [h3])]) (Ev.now _)
      · rw [if_neg (by omega), if_pos (by omega)]
        exact Ev.step (f := fun _ => some (4, b, ((x % 4503599627370496 : Nat) : Int), -1074)) (fun k => by rw [spec_parts_j1, if_neg (by simp; omega), if_pos (by omega)]) (Ev.now _)
    · refine Ev.step (f := fun k => spec_PartsOfNumber.j1 k ((x / 4503599627370496 % 2048 : Nat) : Int) ((x % 4503599627370496 : Nat) : Int) false 0 b 0 0) (fun k => by rw [spec_parts_j0, if_neg (by simp), if_neg (by omega), if_neg (by omega)]) ?_
      rw [if_neg (by omega), if_neg (by omega)]
      refine Ev.step (f := fun _ => some (4, b, ((x % 4503599627370496 + 4503599627370496 : Nat) : Int), ((x / 4503599627370496 % 2048 : Nat) : Int) - 1075)) (fun k => ?_) (Ev.now _)
      rw [spec_parts_j1, if_neg (by simp), if_neg (by omega), wu64, w64 (by omega) (by omega), show (((x % 4503599627370496 : Nat) : Int) + 4503599627370496) % 18446744073709551616 = ((x % 4503599627370496 + 4503599627370496 : Nat) : Int) by omega]
/-- A number's parts by what it stands for. -/
def partsR (d : Ieee.Datum) : Int × Bool × Int × Int := match d with | .nan _ _ => (1, false, 0, 0) | .infinity b => (2, b, 0, 0) | .number b m e => if m = 0 then (3, b, 0, 0) else (4, b, (m : Int), e)
open Go.Proofs.Ytidhjpdcbmbicaa.CG in
theorem parts_read (x : Nat) (hx : x < 18446744073709551616) : partsN x = partsR (Ieee.double.read x) := by
  rw [read_def x hx]
  unfold partsN sgn
  by_cases h1 : 9218868437227405312 < x % 9223372036854775808
  · rw [if_pos h1, if_neg (by omega), if_neg (by omega), if_neg (by omega)]; rfl
  · rw [if_neg h1]
    by_cases h2 : x % 9223372036854775808 = 9218868437227405312
    · rw [if_pos h2, if_neg (by omega), if_neg (by omega), if_pos h2]; rfl
    · rw [if_neg h2]
      by_cases h3 : x % 9223372036854775808 = 0
      · rw [if_pos h3, if_pos (by omega), h3]; rfl
      · rw [if_neg h3]
        by_cases h4 : x % 9223372036854775808 < 4503599627370496
        · rw [if_pos h4, if_pos h4]
          unfold partsR
          simp only [if_neg h3]
          rw [show x % 9223372036854775808 = x % 4503599627370496 by omega]
        · rw [if_neg h4, if_neg h4, if_pos (by omega)]
          unfold partsR
          simp only [if_neg (show ¬ 4503599627370496 + x % 4503599627370496 = 0 by omega)]
          rw [Nat.add_comm 4503599627370496]
theorem parts_is {x : Nat} {d : Ieee.Datum} (hx : x < 18446744073709551616) (h : Ieee.double.read x = d) : Ev (fun k => spec_PartsOfNumber.f k (x : Int)) (partsR d) := by
  have := spec_parts x hx
  rw [parts_read x hx, h] at this
  exact this
theorem parts_zero {x : Nat} {s : Bool} {i : Int} (hx : x < 18446744073709551616) (h : Ieee.double.read x = .number s 0 i) : Ev (fun k => spec_PartsOfNumber.f k (x : Int)) (3, s, 0, 0) := parts_is hx h
theorem parts_some {x m : Nat} {s : Bool} {i : Int} (hx : x < 18446744073709551616) (h : Ieee.double.read x = .number s m i) (hm : m ≠ 0) : Ev (fun k => spec_PartsOfNumber.f k (x : Int)) (4, s, (m : Int), i) := by
  have := parts_is hx h
  unfold partsR at this
  simp only [if_neg hm] at this
  exact this
theorem parts_inf {x : Nat} {s : Bool} (hx : x < 18446744073709551616) (h : Ieee.double.read x = .infinity s) : Ev (fun k => spec_PartsOfNumber.f k (x : Int)) (2, s, 0, 0) := parts_is hx h
theorem parts_nan {x f : Nat} {s : Bool} (hx : x < 18446744073709551616) (h : Ieee.double.read x = .nan s f) : Ev (fun k => spec_PartsOfNumber.f k (x : Int)) (1, false, 0, 0) := parts_is hx h
open Go.Proofs.Ytidhjpdcbmbicaa.CR in
theorem round_near (b : Bool) (M : Nat) (E : Int) (st : Bool) (h0 : M ≠ 0) (h1 : -5000 ≤ E) (h2 : E ≤ 5000) (hst : st = true → 72057594037927936 ≤ M) : roundT b M E st = nearS b M E st := by
  unfold roundT
  rw [if_neg h0, show clampE E = E by unfold clampE; omega]
  congr 1
  cases hs : st
  · rfl
  · rw [decide_eq_true (hst hs)]; rfl
open Go.Proofs.Ytidhjpdcbmbicaa.CR Go.Proofs.Ytidhjpdcbmbicaa.CF in
/-- A rounded number told by its places: what is above the mantissa's places is told by whether there is any. -/
theorem round_form (b : Bool) (M k t : Nat) (E : Int) (ht : t < 2 ^ k) (hM : t ≠ 0 → 72057594037927936 ≤ M) (h0 : M ≠ 0) (h1 : -5000 ≤ E) (h2 : E ≤ 5000) : roundT b M E (decide (t ≠ 0)) = Ieee.double.nearest b (M * 2 ^ k + t) (E - k) := by
  rw [near_form b M k t E ht (fun h => by have := hM h; omega) h0]
  exact round_near b M E _ h0 h1 h2 (fun h => hM (of_decide_eq_true h))
section
open Go.Proofs.Ytidhjpdcbmbicaa.CR Go.Proofs.Ytidhjpdcbmbicaa.CF Go.Proofs.Ytidhjpdcbmbicaa.CG
/-- The sum of two finite numbers, the first with the greater place. -/
def sumV (s : Bool) (m : Nat) (i : Int) (t : Bool) (n : Nat) (j : Int) : Nat :=
  if s = t then Ieee.double.nearest s (m * 2 ^ (i - j).toNat + n) j else if m * 2 ^ (i - j).toNat = n then 0 else if n < m * 2 ^ (i - j).toNat then Ieee.double.nearest s (m * 2 ^ (i - j).toNat - n) j else Ieee.double.nearest t (n - m * 2 ^ (i - j).toNat) j
/-- The end of the sum: what is brought to one place. -/
theorem spec_add_end (s t : Bool) (M0 N0 r k : Nat) (e : Int) (hr : r < 2 ^ k) (hM : r ≠ 0 → 2305843009213693952 ≤ M0) (hM1 : M0 < 4611686018427387904) (hM0 : M0 ≠ 0) (hN : N0 < 9007199254740992) (he : -1100 ≤ e) (he2 : e ≤ 1000) (A n : Nat) (hA : A = M0 * 2 ^ k) (hn : n = N0 * 2 ^ k + r)
    (a a2 a3 : Int) (b b2 b3 : Int) :
    Ev (fun K => spec_Add.l1 K (M0 : Int) e (N0 : Int) (decide (r ≠ 0)) e a s a2 a3 b t b2 b3)
      ((if s = t then Ieee.double.nearest s (A + n) (e - k) else if A = n then 0 else if n < A then Ieee.double.nearest s (A - n) (e - k) else Ieee.double.nearest t (n - A) (e - k) : Nat) : Int) := by
  have hp : 0 < 2 ^ k := Nat.pow_pos (by omega)
  have hl : ∀ K z, spec_Add.l1 (K + 1) (M0 : Int) e (N0 : Int) z e a s a2 a3 b t b2 b3 = (if (s == t) = true then ((spec_RoundTo.f K s (IntKind.u64.wrap ((M0 : Int) + N0)) e z).bind fun t121 => (some t121)) else (if (M0 : Int) = N0 then spec_Add.j8 K (M0 : Int) e (N0 : Int) z (!z) a s a2 a3 b t b2 b3 else spec_Add.j8 K (M0 : Int) e (N0 : Int) z false a s a2 a3 b t b2 b3)) := by
    intro K z
    simp only [spec_Add.l1]
    rw [if_neg (Int.lt_irrefl e)]
  have hj : ∀ K z v, spec_Add.j8 (K + 1) (M0 : Int) e (N0 : Int) z v a s a2 a3 b t b2 b3 = if v = true then (some 0) else (if (M0 : Int) < N0 then ((spec_RoundTo.f K t (IntKind.u64.wrap ((N0 : Int) - M0)) e false).bind fun t122 => (some t122)) else (if z = true then ((spec_RoundTo.f K s (IntKind.u64.wrap ((IntKind.u64.wrap ((M0 : Int) - N0)) - 1)) e true).bind fun t123 => (some t123)) else ((spec_RoundTo.f K s (IntKind.u64.wrap ((M0 : Int) - N0)) e false).bind fun t124 => (some t124)))) := fun _ _ _ => rfl
  have hR : ∀ (b : Bool) (M : Nat) (st : Bool), M < 18446744073709551616 → Ev (fun K => (spec_RoundTo.f K b (M : Int) e st).bind fun v => some v) ((roundT b M e st : Nat) : Int) := fun b M st hM => Ev.bind (spec_round b M hM e st) (Ev.now _)
  by_cases hst : s = t
  · subst hst
    rw [if_pos rfl]
    refine Ev.step (f := fun K => (spec_RoundTo.f K s ((M0 + N0 : Nat) : Int) e (decide (r ≠ 0))).bind fun v => some v) (fun K => ?_) ?_
    · rw [hl, if_pos (by simp), wu64, show ((M0 : Int) + N0) % 18446744073709551616 = ((M0 + N0 : Nat) : Int) by omega]
    · rw [hA, hn, ← Nat.add_assoc, ← Nat.add_mul, ← round_form s (M0 + N0) k r e hr (fun h => by have := hM h; omega) (by omega) (by omega) (by omega)]
      exact hR s (M0 + N0) _ (by omega)
  · rw [if_neg hst]
    have hbeq : ¬ (s == t) = true := by simpa using hst
    have l0 : ∀ z v K, (if (M0 : Int) = N0 then !z else false) = v → spec_Add.l1 (K + 1) (M0 : Int) e (N0 : Int) z e a s a2 a3 b t b2 b3 = spec_Add.j8 K (M0 : Int) e (N0 : Int) z v a s a2 a3 b t b2 b3 := by
      intro z v K hv
      rw [hl, if_neg hbeq]
      by_cases h : (M0 : Int) = N0
      · rw [if_pos h]; rw [if_pos h] at hv; rw [hv]
      · rw [if_neg h]; rw [if_neg h] at hv; rw [hv]
    by_cases h0 : M0 = N0
    · have hr0 : r = 0 := by
        rcases Nat.eq_zero_or_pos r with h | h
        · exact h
        · have := hM (by omega); omega
      subst hr0 h0
      rw [if_pos (by rw [hA, hn]; rfl)]
      refine Ev.step (fun K => l0 _ true K (by rw [if_pos rfl]; rfl)) (Ev.step (f := fun _ => some 0) (fun K => by rw [hj, if_pos rfl]) (Ev.now _))
    · refine Ev.step (fun K => l0 _ false K (by rw [if_neg (by omega)])) ?_
      by_cases h1 : M0 < N0
      · have hr0 : r = 0 := by
          rcases Nat.eq_zero_or_pos r with h | h
          · exact h
          · have := hM (by omega); omega
        subst hr0
        have hle : (M0 + 1) * 2 ^ k ≤ N0 * 2 ^ k := Nat.mul_le_mul_right _ h1
        rw [Nat.add_mul] at hle
        rw [if_neg (by omega), if_neg (by omega)]
        have hsub : n - A = (N0 - M0) * 2 ^ k + 0 := by rw [hA, hn, Nat.sub_mul]; rfl
        rw [hsub, ← round_form t (N0 - M0) k 0 e hp (fun h => absurd rfl h) (by omega) (by omega) (by omega)]
        refine Ev.step (fun K => ?_) (hR t (N0 - M0) false (by omega))
        rw [hj, if_neg (by simp), if_pos (by omega), wu64, show ((N0 : Int) - M0) % 18446744073709551616 = ((N0 - M0 : Nat) : Int) by omega]
      · have hle : (N0 + 1) * 2 ^ k ≤ M0 * 2 ^ k := Nat.mul_le_mul_right _ (by omega)
        rw [Nat.add_mul] at hle
        rw [if_neg (by omega), if_pos (by omega)]
        by_cases hr0 : r = 0
        · subst hr0
          have hsub : A - n = (M0 - N0) * 2 ^ k + 0 := by rw [hA, hn, Nat.sub_mul]; rfl
          rw [hsub, ← round_form s (M0 - N0) k 0 e hp (fun h => absurd rfl h) (by omega) (by omega) (by omega)]
          refine Ev.step (fun K => ?_) (hR s (M0 - N0) false (by omega))
          rw [hj, if_neg (by simp), if_neg (by omega), if_neg (by simp), wu64, show ((M0 : Int) - N0) % 18446744073709551616 = ((M0 - N0 : Nat) : Int) by omega]
        · have hbig := hM hr0
          have e1 : M0 = (M0 - N0 - 1) + N0 + 1 := by omega
          have hsub : A - n = (M0 - N0 - 1) * 2 ^ k + (2 ^ k - r) := by
            rw [hA, hn]
            conv => lhs; rw [e1]
            rw [Nat.add_mul, Nat.add_mul]
            omega
          have hrf := round_form s (M0 - N0 - 1) k (2 ^ k - r) e (by omega) (fun _ => by omega) (by omega) (by omega) (by omega)
          rw [decide_eq_true (show 2 ^ k - r ≠ 0 by omega)] at hrf
          rw [hsub, ← hrf]
          refine Ev.step (fun K => ?_) (hR s (M0 - N0 - 1) true (by omega))
          rw [hj, if_neg (by simp), if_neg (by omega), if_pos (decide_eq_true hr0), wu64, wu64, show (((M0 : Int) - N0) % 18446744073709551616 - 1) % 18446744073709551616 = ((M0 - N0 - 1 : Nat) : Int) by omega]
theorem div_pow_succ (n u : Nat) : n / 2 ^ (u + 1) = n / 2 ^ u / 2 := by rw [Nat.div_div_eq_div_mul, ← Nat.pow_succ]
theorem mod_pow_succ (n u : Nat) : n % 2 ^ (u + 1) = n % 2 ^ u + 2 ^ u * (n / 2 ^ u % 2) := by rw [Nat.pow_succ, Nat.mod_mul]
/-- The second number brought to the first one's place. -/
theorem spec_add_l1 (M0 n : Nat) (e j : Int) (hn : n < 9007199254740992) (he : -1100 ≤ e) (he2 : e ≤ 1000) (hj : -1100 ≤ j) (hje : j ≤ e) (s t : Bool) (a a2 a3 : Int) (b b2 b3 : Int) (R : Int)
    (hend : Ev (fun K => spec_Add.l1 K (M0 : Int) e ((n / 2 ^ (e - j).toNat : Nat) : Int) (decide (n % 2 ^ (e - j).toNat ≠ 0)) e a s a2 a3 b t b2 b3) R) :
    ∀ (d u : Nat), (e - j).toNat - u = d → u ≤ (e - j).toNat → Ev (fun K => spec_Add.l1 K (M0 : Int) e ((n / 2 ^ u : Nat) : Int) (decide (n % 2 ^ u ≠ 0)) (j + u) a s a2 a3 b t b2 b3) R := by
  intro d
  induction d with
  | zero =>
    intro u hd hu
    obtain rfl : u = (e - j).toNat := by omega
    rw [show j + (((e - j).toNat : Nat) : Int) = e by omega]
    exact hend
  | succ d ih =>
    intro u hd hu
    have h' := ih (u + 1) (by omega) (by omega)
    have hq : n / 2 ^ u ≤ n := Nat.div_le_self _ _
    have hp : 0 < 2 ^ u := Nat.pow_pos (by omega)
    have e1 : IntKind.u64.wrap (Int.tdiv ((n / 2 ^ u : Nat) : Int) 2) = ((n / 2 ^ (u + 1) : Nat) : Int) := by
      rw [div_pow_succ, wu64, tdivN (Int.natCast_nonneg _)]
      generalize n / 2 ^ u = q at *
      omega
    have e2 : wrap64 (j + u + 1) = j + ((u + 1 : Nat) : Int) := by rw [w64 (by omega) (by omega)]; omega
    have e3 : Int.tmod ((n / 2 ^ u : Nat) : Int) 2 = ((n / 2 ^ u % 2 : Nat) : Int) := by
      rw [tmodN (Int.natCast_nonneg _)]; omega
    have e4 : wrap64 (e + 1) = e + 1 := w64 (by omega) (by omega)
    have hlost : decide (n % 2 ^ (u + 1) ≠ 0) = (decide (n % 2 ^ u ≠ 0) || (((n / 2 ^ u % 2 : Nat) : Int) == 1)) := by
      rw [mod_pow_succ, Bool.eq_iff_iff]
      simp only [decide_eq_true_eq, Bool.or_eq_true, beq_iff_eq]
      rcases Nat.mod_two_eq_zero_or_one (n / 2 ^ u) with h | h
      · rw [h, Nat.mul_zero, Nat.add_zero]; omega
      · rw [h, Nat.mul_one]; omega
    -- where nothing is left, but something is lost, the end is near
    have hout : n / 2 ^ (u + 1) = 0 → decide (n % 2 ^ (u + 1) ≠ 0) = true → Ev (fun K => spec_Add.l1 K (M0 : Int) e ((n / 2 ^ (u + 1) : Nat) : Int) true (e + 1) a s a2 a3 b t b2 b3) R := by
      intro h0 h1
      have hlt : n < 2 ^ (u + 1) := by
        rcases Nat.lt_or_ge n (2 ^ (u + 1)) with h | h
        · exact h
        · have := Nat.div_pos h (Nat.pow_pos (by omega)); omega
      have hlt2 : n < 2 ^ (e - j).toNat := Nat.lt_of_lt_of_le hlt (Nat.pow_le_pow_right (by omega) (by omega))
      have hn0 : n ≠ 0 := by
        have := of_decide_eq_true h1
        rw [Nat.mod_eq_of_lt hlt] at this
        exact this
      rw [Nat.div_eq_of_lt hlt2, Nat.mod_eq_of_lt hlt2, decide_eq_true hn0] at hend
      rw [h0]
      obtain ⟨K, hK⟩ := hend
      refine ⟨K, fun m hm => ?_⟩
      rw [← hK m hm]
      cases m with
      | zero => rfl
      | succ m =>
        have hlt3 : ¬ e + 1 < e := by omega
        simp only [spec_Add.l1]
        rw [if_neg hlt3, if_neg (Int.lt_irrefl e)]
    by_cases hz : n % 2 ^ u ≠ 0
    · have hl1 : decide (n % 2 ^ (u + 1) ≠ 0) = true := by rw [hlost, decide_eq_true hz]; rfl
      rw [hl1] at h'
      rw [decide_eq_true hz]
      by_cases h0 : n / 2 ^ (u + 1) = 0
      · refine Ev.step (fun K => ?_) (hout h0 hl1)
        simp only [spec_Add.l1]
        rw [if_pos (by omega), if_pos trivial, e1, h0, if_pos (by omega), e4]
      · refine Ev.step (fun K => ?_) h'
        simp only [spec_Add.l1]
        rw [if_pos (by omega), if_pos trivial, e1, if_neg (by omega), e2]
    · rw [decide_eq_false hz] at hlost ⊢
      rw [Bool.false_or] at hlost
      rw [hlost] at h'
      by_cases h0 : n / 2 ^ (u + 1) = 0
      · by_cases ho : n / 2 ^ u % 2 = 1
        · have hl1 : decide (n % 2 ^ (u + 1) ≠ 0) = true := by rw [hlost, ho]; rfl
          refine Ev.step (fun K => ?_) (hout h0 hl1)
          simp only [spec_Add.l1]
          rw [if_pos (by omega), if_neg (by simp), e1, h0, if_pos (by omega), e3, if_pos (by omega), e4, ho]
          rfl
        · refine Ev.step (fun K => ?_) h'
          simp only [spec_Add.l1]
          rw [if_pos (by omega), if_neg (by simp), e1, if_pos (by omega), e3, if_neg (by omega), e2]
      · refine Ev.step (fun K => ?_) h'
        simp only [spec_Add.l1]
        rw [if_pos (by omega), if_neg (by simp), e1, if_neg (by omega), e3, e2]
/-- The sum of two finite numbers that are not 0. -/
theorem spec_add_fin (m n : Nat) (i j : Int) (hm : m < 9007199254740992) (hm0 : m ≠ 0) (hn : n < 9007199254740992) (hi2 : i ≤ 971) (hj : -1074 ≤ j) (hji : j ≤ i) (s t : Bool) :
    Ev (fun K => spec_Add.j4 K 4 s (m : Int) i 4 t (n : Int) j) ((sumV s m i t n j : Nat) : Int) := by
  have hstop : ∀ c : Nat, c ≤ (i - j).toNat → m * 2 ^ c < 4611686018427387904 → (c = (i - j).toNat ∨ 2305843009213693952 ≤ m * 2 ^ c) → Ev (fun K => spec_Add.j6 K ((m * 2 ^ c : Nat) : Int) (i - c) 4 s (m : Int) i 4 t (n : Int) j) ((sumV s m i t n j : Nat) : Int) := by
    intro c hc hlt hor
    have hp : 0 < 2 ^ c := Nat.pow_pos (by omega)
    refine Ev.step (f := fun K => spec_Add.l1 K ((m * 2 ^ c : Nat) : Int) (i - c) (n : Int) false j 4 s (m : Int) i 4 t (n : Int) j) (fun _ => rfl) ?_
    have hk : ((i - c) - j).toNat = (i - j).toNat - c := by omega
    have hend := spec_add_end s t (m * 2 ^ c) (n / 2 ^ ((i - j).toNat - c)) (n % 2 ^ ((i - j).toNat - c)) ((i - j).toNat - c) (i - c) (Nat.mod_lt _ (Nat.pow_pos (by omega))) (by
        intro hr
        rcases hor with h | h
        · exfalso; rw [h, Nat.sub_self, Nat.pow_zero, Nat.mod_one] at hr; exact hr rfl
        · exact h) hlt (Nat.mul_ne_zero hm0 (by omega)) (Nat.lt_of_le_of_lt (Nat.div_le_self _ _) hn) (by omega) (by omega) (m * 2 ^ (i - j).toNat) n (by rw [Nat.mul_assoc, ← Nat.pow_add]; congr 2; omega) (by rw [Nat.mul_comm]; exact (Nat.div_add_mod _ _).symm) 4 (m : Int) i 4 (n : Int) j
    rw [show i - (c : Int) - (((i - j).toNat - c : Nat) : Int) = j by omega] at hend
    have h := spec_add_l1 (m * 2 ^ c) n (i - c) j hn (by omega) (by omega) (by omega) (by omega) s t 4 (m : Int) i 4 (n : Int) j _ (by rw [hk]; exact hend) _ 0 rfl (by omega)
    rw [Nat.pow_zero, Nat.div_one, Nat.mod_one, decide_eq_false (by simp), show j + ((0 : Nat) : Int) = j by omega] at h
    exact h
  have hrun : ∀ (d c : Nat), (i - j).toNat - c = d → c ≤ (i - j).toNat → m * 2 ^ c < 4611686018427387904 → Ev (fun K => spec_Add.l0 K ((m * 2 ^ c : Nat) : Int) (i - c) 4 s (m : Int) i 4 t (n : Int) j) ((sumV s m i t n j : Nat) : Int) := by
    have hp61 : Ev (fun k => spec_l03Pow.f k 61) 2305843009213693952 := spec_pow 61 (by omega)
    have hl0 : ∀ K x e, spec_Add.l0 (K + 1) x e 4 s (m : Int) i 4 t (n : Int) j = (spec_l03Pow.f K 61).bind fun t120 => (if x < t120 then (if e > j then (spec_Add.l0 K (IntKind.u64.wrap (x * 2)) (wrap64 (e - 1)) 4 s (m : Int) i 4 t (n : Int) j) else (spec_Add.j6 K x e 4 s (m : Int) i 4 t (n : Int) j)) else (spec_Add.j6 K x e 4 s (m : Int) i 4 t (n : Int) j)) := fun _ _ _ => rfl
    intro d
    induction d with
    | zero =>
      intro c hd hc hlt
      obtain rfl : c = (i - j).toNat := by omega
      refine Ev.step (fun K => hl0 K _ _) (Ev.bind hp61 ?_)
      refine (hstop _ (Nat.le_refl _) hlt (.inl rfl)).congr fun K => ?_
      by_cases h : ((m * 2 ^ (i - j).toNat : Nat) : Int) < 2305843009213693952
      · rw [if_pos h, if_neg (by omega)]
      · rw [if_neg h]
    | succ d ih =>
      intro c hd hc hlt
      refine Ev.step (fun K => hl0 K _ _) (Ev.bind hp61 ?_)
      by_cases h : m * 2 ^ c < 2305843009213693952
      · have e1 : m * 2 ^ (c + 1) = m * 2 ^ c * 2 := by rw [Nat.pow_succ, Nat.mul_assoc]
        refine (ih (c + 1) (by omega) (by omega) (by omega)).congr fun K => ?_
        rw [if_pos (by omega), if_pos (by omega), wu64, w64 (by omega) (by omega), e1, show ((m * 2 ^ c : Nat) : Int) * 2 % 18446744073709551616 = ((m * 2 ^ c * 2 : Nat) : Int) by omega, show i - (c : Int) - 1 = i - ((c + 1 : Nat) : Int) by omega]
      · refine (hstop c hc hlt (.inr (by omega))).congr fun K => ?_
        rw [if_neg (by omega)]
  have h := hrun _ 0 rfl (by omega) (by rw [Nat.pow_zero, Nat.mul_one]; omega)
  rw [Nat.pow_zero, Nat.mul_one, show i - ((0 : Nat) : Int) = i by omega] at h
  exact Ev.step (fun _ => rfl) h
end
section
open Go.Proofs.Ytidhjpdcbmbicaa.CR Go.Proofs.Ytidhjpdcbmbicaa.CF Go.Proofs.Ytidhjpdcbmbicaa.CG
theorem spec_Add_go (x y : Nat) {P Q : Int × Bool × Int × Int} {R : Int} (hP : Ev (fun k => spec_PartsOfNumber.f k (x : Int)) P) (hQ : Ev (fun k => spec_PartsOfNumber.f k (y : Int)) Q)
    (h : Ev (fun k => if P.1 = 1 then (spec_Add.j0 k (x : Int) (y : Int) true P.1 P.2.1 P.2.2.1 P.2.2.2 Q.1 Q.2.1 Q.2.2.1 Q.2.2.2) else (spec_Add.j0 k (x : Int) (y : Int) (Q.1 == 1) P.1 P.2.1 P.2.2.1 P.2.2.2 Q.1 Q.2.1 Q.2.2.1 Q.2.2.2)) R) : Ev (fun k => spec_Add.f k (x : Int) (y : Int)) R := by
  unfold spec_Add.f; exact Ev.bind hP (Ev.bind hQ h)
theorem spec_Add_eq (x y : Nat) (hx : x < 18446744073709551616) (hy : y < 18446744073709551616) : Ev (fun k => spec_Add.f k (x : Int) (y : Int)) ((addT x y : Nat) : Int) := by
  have hnan : ∀ r : Nat, r = 9221120237041090560 → ((r : Nat) : Int) = 9221120237041090560 := by intro r h; rw [h]; rfl
  cases hrx : Ieee.double.read x with
  | nan s f =>
    have e : addT x y = 9221120237041090560 := by unfold addT Ieee.Format.add; rw [hrx]; rfl
    rw [hnan _ e]
    exact spec_Add_go x y (parts_nan hx hrx) (parts_is hy rfl) (Ev.step (f := fun _ => some 9221120237041090560) (fun _ => rfl) (Ev.now _))
  | infinity s =>
    obtain ⟨_, hxe⟩ := read_inf hx hrx
    cases hry : Ieee.double.read y with
    | nan t f =>
      have e : addT x y = 9221120237041090560 := by unfold addT Ieee.Format.add; rw [hrx, hry]; rfl
      rw [hnan _ e]
      exact spec_Add_go x y (parts_inf hx hrx) (parts_nan hy hry) (Ev.step (f := fun _ => some 9221120237041090560) (fun _ => rfl) (Ev.now _))
    | infinity t =>
      refine spec_Add_go x y (parts_inf hx hrx) (parts_inf hy hry) ?_
      by_cases h : s = t
      · subst h
        have e : addT x y = x := by
          unfold addT Ieee.Format.add; rw [hrx, hry]; unfold Ieee.Datum.sum
          simp only [if_true, Option.map_some, Option.getD_some]
          rw [write_inf, ← hxe]
        rw [e]
        refine Ev.step (f := fun k => spec_Add.j1 k (x : Int) (y : Int) true 2 s 0 0 2 s 0 0) (fun _ => rfl) (Ev.step (f := fun _ => some (x : Int)) (fun k => ?_) (Ev.now _))
        show (if (s != s) = true then (some 9221120237041090560) else (some (x : Int))) = _
        rw [if_neg (by simp)]
      · have e : addT x y = 9221120237041090560 := by
          unfold addT Ieee.Format.add; rw [hrx, hry]; unfold Ieee.Datum.sum
          simp only [if_neg h]; rfl
        rw [hnan _ e]
        refine Ev.step (f := fun k => spec_Add.j1 k (x : Int) (y : Int) true 2 s 0 0 2 t 0 0) (fun _ => rfl) (Ev.step (f := fun _ => some 9221120237041090560) (fun k => ?_) (Ev.now _))
        show (if (s != t) = true then (some 9221120237041090560) else (some (x : Int))) = _
        rw [if_pos (by simpa using h)]
    | number t n j =>
      have e : addT x y = x := by
        unfold addT Ieee.Format.add; rw [hrx, hry]; unfold Ieee.Datum.sum
        simp only [Option.map_some, Option.getD_some]
        rw [write_inf, ← hxe]
      rw [e]
      by_cases h : n = 0
      · subst h
        refine spec_Add_go x y (parts_inf hx hrx) (parts_zero hy hry) ?_
        exact Ev.step (f := fun k => spec_Add.j1 k (x : Int) (y : Int) false 2 s 0 0 3 t 0 0) (fun _ => rfl) (Ev.step (f := fun _ => some (x : Int)) (fun _ => rfl) (Ev.now _))
      · refine spec_Add_go x y (parts_inf hx hrx) (parts_some hy hry h) ?_
        exact Ev.step (f := fun k => spec_Add.j1 k (x : Int) (y : Int) false 2 s 0 0 4 t n j) (fun _ => rfl) (Ev.step (f := fun _ => some (x : Int)) (fun _ => rfl) (Ev.now _))
  | number s m i =>
    obtain ⟨_, a1, a2, a3, a4, a5, a6⟩ := read_num hx hrx
    have hself := near_read hx hrx
    cases hry : Ieee.double.read y with
    | nan t f =>
      have e : addT x y = 9221120237041090560 := by unfold addT Ieee.Format.add; rw [hrx, hry]; rfl
      rw [hnan _ e]
      by_cases h : m = 0
      · subst h
        exact spec_Add_go x y (parts_zero hx hrx) (parts_nan hy hry) (Ev.step (f := fun _ => some 9221120237041090560) (fun _ => rfl) (Ev.now _))
      · exact spec_Add_go x y (parts_some hx hrx h) (parts_nan hy hry) (Ev.step (f := fun _ => some 9221120237041090560) (fun _ => rfl) (Ev.now _))
    | infinity t =>
      obtain ⟨_, hye⟩ := read_inf hy hry
      have e : addT x y = y := by
        unfold addT Ieee.Format.add; rw [hrx, hry]; unfold Ieee.Datum.sum
        simp only [Option.map_some, Option.getD_some]
        rw [write_inf, ← hye]
      rw [e]
      by_cases h : m = 0
      · subst h
        refine spec_Add_go x y (parts_zero hx hrx) (parts_inf hy hry) ?_
        exact Ev.step (f := fun k => spec_Add.j1 k (x : Int) (y : Int) false 3 s 0 0 2 t 0 0) (fun _ => rfl) (Ev.step (f := fun _ => some (y : Int)) (fun _ => rfl) (Ev.now _))
      · refine spec_Add_go x y (parts_some hx hrx h) (parts_inf hy hry) ?_
        exact Ev.step (f := fun k => spec_Add.j1 k (x : Int) (y : Int) false 4 s m i 2 t 0 0) (fun _ => rfl) (Ev.step (f := fun _ => some (y : Int)) (fun _ => rfl) (Ev.now _))
    | number t n j =>
      obtain ⟨_, b1, b2, b3, b4, b5, b6⟩ := read_num hy hry
      have hself2 := near_read hy hry
      by_cases h : m = 0
      · subst h
        obtain rfl := a6 rfl
        by_cases h' : n = 0
        · subst h'
          obtain rfl := b6 rfl
          have e : addT x y = if s = true then (if t = true then x else 0) else 0 := by
            rw [add_ge hrx hry (Int.le_refl _)]
            simp only [Nat.zero_mul, Nat.add_zero, if_true]
            rw [hself]
            cases s <;> cases t
            · simp only [if_true, Bool.false_eq_true, if_false]; rw [← hself, near_zero]; rfl
            · simp
            · simp
            · simp
          rw [e]
          refine spec_Add_go x y (parts_zero hx hrx) (parts_zero hy hry) ?_
          refine Ev.step (f := fun k => spec_Add.j1 k (x : Int) (y : Int) false 3 s 0 0 3 t 0 0) (fun _ => rfl) (Ev.step (f := fun k => spec_Add.j2 k (x : Int) (y : Int) true 3 s 0 0 3 t 0 0) (fun _ => rfl) (Ev.step (f := fun _ => some (((if s = true then (if t = true then x else 0) else 0 : Nat)) : Int)) (fun k => ?_) (Ev.now _)))
          cases s <;> cases t <;> rfl
        · have e : addT x y = y := by
            rw [addT_comm, add_ge hry hrx (by omega)]
            simp only [Nat.add_zero, Nat.sub_zero]
            have hsc := near_scale t n (j - -1074).toNat j h'
            rw [show j - (((j - -1074).toNat : Nat) : Int) = -1074 by omega, hself2] at hsc
            have hp : 0 < n * 2 ^ (j - -1074).toNat := Nat.mul_pos (by omega) (Nat.pow_pos (by omega))
            rw [hsc, if_neg (show ¬ n * 2 ^ (j - -1074).toNat = 0 by omega), if_pos hp]
            by_cases hst : t = s
            · rw [if_pos hst]
            · rw [if_neg hst]
          rw [e]
          refine spec_Add_go x y (parts_zero hx hrx) (parts_some hy hry h') ?_
          exact Ev.step (f := fun k => spec_Add.j1 k (x : Int) (y : Int) false 3 s 0 0 4 t n j) (fun _ => rfl) (Ev.step (f := fun k => spec_Add.j2 k (x : Int) (y : Int) false 3 s 0 0 4 t n j) (fun _ => rfl) (Ev.step (f := fun _ => some (y : Int)) (fun _ => rfl) (Ev.now _)))
      · by_cases h' : n = 0
        · subst h'
          obtain rfl := b6 rfl
          have e : addT x y = x := by
            rw [add_ge hrx hry (by omega)]
            simp only [Nat.add_zero, Nat.sub_zero]
            have hsc := near_scale s m (i - -1074).toNat i h
            rw [show i - (((i - -1074).toNat : Nat) : Int) = -1074 by omega, hself] at hsc
            have hp : 0 < m * 2 ^ (i - -1074).toNat := Nat.mul_pos (by omega) (Nat.pow_pos (by omega))
            rw [hsc, if_neg (show ¬ m * 2 ^ (i - -1074).toNat = 0 by omega), if_pos hp]
            by_cases hst : s = t
            · rw [if_pos hst]
            · rw [if_neg hst]
          rw [e]
          refine spec_Add_go x y (parts_some hx hrx h) (parts_zero hy hry) ?_
          exact Ev.step (f := fun k => spec_Add.j1 k (x : Int) (y : Int) false 4 s m i 3 t 0 0) (fun _ => rfl) (Ev.step (f := fun k => spec_Add.j2 k (x : Int) (y : Int) false 4 s m i 3 t 0 0) (fun _ => rfl) (Ev.step (f := fun _ => some (x : Int)) (fun _ => rfl) (Ev.now _)))
        · refine spec_Add_go x y (parts_some hx hrx h) (parts_some hy hry h') ?_
          refine Ev.step (f := fun k => spec_Add.j1 k (x : Int) (y : Int) false 4 s m i 4 t n j) (fun _ => rfl) (Ev.step (f := fun k => spec_Add.j2 k (x : Int) (y : Int) false 4 s m i 4 t n j) (fun _ => rfl) ?_)
          have hj2 : ∀ k, spec_Add.j2 (k + 1) (x : Int) (y : Int) false 4 s m i 4 t n j = if i < j then (spec_Add.j3 k true 4 s m i 4 t n j) else (if i = j then (spec_Add.j3 k (decide ((m : Int) < n)) 4 s m i 4 t n j) else (spec_Add.j3 k false 4 s m i 4 t n j)) := fun _ => rfl
          have hsw : j ≤ i → Ev (fun K => spec_Add.j3 K false 4 s (m : Int) i 4 t (n : Int) j) ((addT x y : Nat) : Int) := fun hji => by
            rw [add_ge hrx hry hji]
            exact Ev.step (fun _ => rfl) (spec_add_fin m n i j a1 h b1 a3 b2 hji s t)
          have hsw2 : i ≤ j → Ev (fun K => spec_Add.j3 K true 4 s (m : Int) i 4 t (n : Int) j) ((addT x y : Nat) : Int) := fun hji => by
            rw [addT_comm, add_ge hry hrx hji]
            exact Ev.step (fun _ => rfl) (spec_add_fin n m j i b1 h' a1 b3 a2 hji t s)
          by_cases h1 : i < j
          · exact Ev.step (fun k => by rw [hj2, if_pos h1]) (hsw2 (by omega))
          · by_cases h2 : i = j
            · by_cases h3 : (m : Int) < n
              · exact Ev.step (fun k => by rw [hj2, if_neg h1, if_pos h2, decide_eq_true h3]) (hsw2 (by omega))
              · exact Ev.step (fun k => by rw [hj2, if_neg h1, if_pos h2, decide_eq_false h3]) (hsw (by omega))
            · exact Ev.step (fun k => by rw [hj2, if_neg h1, if_neg h2]) (hsw (by omega))
end
theorem impl_nan (x : Nat) (hx : x < 18446744073709551616) : impl_isNaN.f (x : Int) = some (nanB x) := by
  unfold impl_isNaN.f nanB
  rw [and63 x hx]
  congr 1
  rw [decide_eq_decide]; omega
section
open Go.Proofs.Ytidhjpdcbmbicaa.CR Go.Proofs.Ytidhjpdcbmbicaa.CF Go.Proofs.Ytidhjpdcbmbicaa.CG Go.Proofs.Ytidhjpdcbmbicaa.CN
/-- What Negate tells, as a Nat. -/
def negM (x : Nat) : Nat := if nanB x = true then 9221120237041090560 else negT x
theorem negM_lt (x : Nat) (hx : x < 18446744073709551616) : negM x < 18446744073709551616 := by
  unfold negM
  split
  · omega
  · exact negT_lt x hx
theorem negXor (x : Nat) (hx : x < 18446744073709551616) : Go.bits .xor .u64 (x : Int) 9223372036854775808 = ((negT x : Nat) : Int) := by
  have h := xor_u64 x 9223372036854775808 hx (by omega)
  have e : ((9223372036854775808 : Nat) : Int) = 9223372036854775808 := rfl
  rw [negT_xor x hx, e] at h
  exact h
end
section
open Go.Proofs.Ytidhjpdcbmbicaa.CN
theorem impl_neg_nat (x : Nat) (hx : x < 18446744073709551616) : impl_Negate.f (x : Int) = some ((negM x : Nat) : Int) := by
  unfold impl_Negate.f negM
  rw [impl_nan x hx]
  simp only [Option.bind_some]
  by_cases h : nanB x = true
  · rw [if_pos h, if_pos h]; rfl
  · rw [if_neg h, if_neg h, negXor x hx]
end
theorem nan_CH (x : Nat) : Go.Proofs.Ytidhjpdcbmbicaa.CH.nanB x = nanB x := rfl
theorem cmp_eq (a b : Int) : (some (compare a b) == some Ordering.eq) = (a == b) := by
  rcases Int.lt_trichotomy a b with h | h | h
  · rw [Int.compare_eq_lt.2 h, show (a == b) = false by simp; omega]; rfl
  · rw [Int.compare_eq_eq.2 h, show (a == b) = true by simp; omega]; rfl
  · rw [Int.compare_eq_gt.2 h, show (a == b) = false by simp; omega]; rfl
theorem cmp_lt (a b : Int) : (some (compare a b) == some Ordering.lt) = decide (a < b) := by
  rcases Int.lt_trichotomy a b with h | h | h
  · rw [Int.compare_eq_lt.2 h, decide_eq_true h]; rfl
  · rw [Int.compare_eq_eq.2 h, decide_eq_false (by omega)]; rfl
  · rw [Int.compare_eq_gt.2 h, decide_eq_false (by omega)]; rfl
theorem spec_nan (x : Nat) (hx : x < 18446744073709551616) : Ev (fun k => spec_l03Nan.f k (x : Int)) (nanB x) := by
  unfold spec_l03Nan.f
  refine Ev.bind (spec_parts x hx) ?_
  rw [partsN_kind]
  exact Ev.now _
section
open Go.Proofs.Ytidhjpdcbmbicaa.CR Go.Proofs.Ytidhjpdcbmbicaa.CF Go.Proofs.Ytidhjpdcbmbicaa.CG Go.Proofs.Ytidhjpdcbmbicaa.CH
theorem spec_key (x : Nat) (hx : x < 18446744073709551616) : Ev (fun k => spec_l03Key.f k (x : Int)) (keyI x) := by
  unfold spec_l03Key.f keyI
  refine Ev.bind spec_pow63 ?_
  by_cases h : 9223372036854775808 ≤ x
  · rw [if_pos h]
    refine Ev.congr (f := fun k => (spec_l03Pow.f k 63).bind fun t109 => (some (wrap64 (-(wrap64 (IntKind.u64.wrap ((x : Int) - t109))))))) (fun k => by rw [if_pos (by omega)]) (Ev.bind spec_pow63 ?_)
    rw [wu64, w64 (x := ((x : Int) - 9223372036854775808) % 18446744073709551616) (by omega) (by omega), w64 (by omega) (by omega)]
    rw [show -(((x : Int) - 9223372036854775808) % 18446744073709551616) = -((x - 9223372036854775808 : Nat) : Int) by omega]
    exact Ev.now _
  · rw [if_neg h]
    refine Ev.congr (f := fun _ => some (x : Int)) (fun k => by rw [if_neg (by omega), w64 (by omega) (by omega)]) (Ev.now _)
end
def eqT (x y : Nat) : Bool := Ieee.double.order x y == some .eq
def ltT (x y : Nat) : Bool := Ieee.double.order x y == some .lt
section
open Go.Proofs.Ytidhjpdcbmbicaa.CR Go.Proofs.Ytidhjpdcbmbicaa.CF Go.Proofs.Ytidhjpdcbmbicaa.CG Go.Proofs.Ytidhjpdcbmbicaa.CH
theorem eqT_val (x y : Nat) (hx : x < 18446744073709551616) (hy : y < 18446744073709551616) : eqT x y = (!nanB x && !nanB y && (keyI x == keyI y)) := by
  unfold eqT
  rw [order_eq x y hx hy, nan_CH, nan_CH]
  cases h1 : nanB x <;> cases h2 : nanB y
  · rw [if_neg (by simp), cmp_eq]; rfl
  · rw [if_pos (by simp)]; rfl
  · rw [if_pos (by simp)]; rfl
  · rw [if_pos (by simp)]; rfl
theorem ltT_val (x y : Nat) (hx : x < 18446744073709551616) (hy : y < 18446744073709551616) : ltT x y = (!nanB x && !nanB y && decide (keyI x < keyI y)) := by
  unfold ltT
  rw [order_eq x y hx hy, nan_CH, nan_CH]
  cases h1 : nanB x <;> cases h2 : nanB y
  · rw [if_neg (by simp), cmp_lt]; rfl
  · rw [if_pos (by simp)]; rfl
  · rw [if_pos (by simp)]; rfl
  · rw [if_pos (by simp)]; rfl
end
section
open Go.Proofs.Ytidhjpdcbmbicaa.CR Go.Proofs.Ytidhjpdcbmbicaa.CF Go.Proofs.Ytidhjpdcbmbicaa.CG Go.Proofs.Ytidhjpdcbmbicaa.CH
theorem spec_Equal_eq (x y : Nat) (hx : x < 18446744073709551616) (hy : y < 18446744073709551616) : Ev (fun k => spec_Equal.f k (x : Int) (y : Int)) (eqT x y) := by
  unfold spec_Equal.f eqT
  rw [order_eq x y hx hy]
  refine Ev.bind (spec_nan x hx) ?_
  rw [nan_CH, nan_CH]
  by_cases h : nanB x = true
  · rw [if_pos (.inl h)]
    simp only [if_pos h]
    exact Ev.now _
  · simp only [if_neg h]
    refine Ev.bind (spec_nan y hy) ?_
    by_cases h2 : nanB y = true
    · rw [if_pos (.inr h2)]
      simp only [if_pos h2]
      exact Ev.now _
    · rw [if_neg (by simp only [h, h2]; simp)]
      simp only [if_neg h2]
      refine Ev.bind (spec_key x hx) (Ev.bind (spec_key y hy) ?_)
      rw [cmp_eq]
      exact Ev.now _
end
section
open Go.Proofs.Ytidhjpdcbmbicaa.CR Go.Proofs.Ytidhjpdcbmbicaa.CF Go.Proofs.Ytidhjpdcbmbicaa.CG Go.Proofs.Ytidhjpdcbmbicaa.CH
theorem spec_Less_eq (x y : Nat) (hx : x < 18446744073709551616) (hy : y < 18446744073709551616) : Ev (fun k => spec_Less.f k (x : Int) (y : Int)) (ltT x y) := by
  unfold spec_Less.f ltT
  rw [order_eq x y hx hy]
  refine Ev.bind (spec_nan x hx) ?_
  rw [nan_CH, nan_CH]
  by_cases h : nanB x = true
  · rw [if_pos (.inl h)]
    simp only [if_pos h]
    exact Ev.now _
  · simp only [if_neg h]
    refine Ev.bind (spec_nan y hy) ?_
    by_cases h2 : nanB y = true
    · rw [if_pos (.inr h2)]
      simp only [if_pos h2]
      exact Ev.now _
    · rw [if_neg (by simp only [h, h2]; simp)]
      simp only [if_neg h2]
      refine Ev.bind (spec_key x hx) (Ev.bind (spec_key y hy) ?_)
      rw [cmp_lt]
      exact Ev.now _
end
section
open Go.Proofs.Ytidhjpdcbmbicaa.CR Go.Proofs.Ytidhjpdcbmbicaa.CF Go.Proofs.Ytidhjpdcbmbicaa.CG Go.Proofs.Ytidhjpdcbmbicaa.CH Go.Proofs.Ytidhjpdcbmbicaa.CN
theorem near_neg (M : Nat) (E : Int) : Ieee.double.nearest true M E = negT (Ieee.double.nearest false M E) := by
  have h : ∀ r : Nat, r ≤ 9218868437227405312 → enc true r = negT (enc false r) := by
    intro r hr
    unfold enc negT
    simp only [if_true, Bool.false_eq_true, if_false]
    rw [if_neg (by omega), Nat.add_comm]
  by_cases h0 : M = 0
  · subst h0; rw [near_zero, near_zero]; exact h 0 (by omega)
  · rw [near_eq true M E h0, near_eq false M E h0]
    exact h _ (Nat.min_le_right ..)
end
section
open Go.Proofs.Ytidhjpdcbmbicaa.CR Go.Proofs.Ytidhjpdcbmbicaa.CF Go.Proofs.Ytidhjpdcbmbicaa.CG Go.Proofs.Ytidhjpdcbmbicaa.CH Go.Proofs.Ytidhjpdcbmbicaa.CN Go.Proofs.Ytidhjpdcbmbicaa.CV
/-- A rest, brought to a place. -/
def restW (s : Bool) (V : Nat) : Nat := if s = true then negT (wd V) else wd V
theorem rest_near (s : Bool) (M : Nat) (E : Int) (hE : -1074 ≤ E) : restW s (M * 2 ^ (E + 1074).toNat) = Ieee.double.nearest s M E := by
  have h : wd (M * 2 ^ (E + 1074).toNat) = Ieee.double.nearest false M E := by
    unfold wd
    by_cases h0 : M = 0
    · subst h0; rw [Nat.zero_mul, near_zero, near_zero]
    · have := near_scale false M (E + 1074).toNat E h0
      rw [show E - (((E + 1074).toNat : Nat) : Int) = -1074 by omega] at this
      exact this
  unfold restW
  rw [h]
  cases s
  · rw [if_neg (by simp)]
  · rw [if_pos rfl, near_neg]
theorem round_rest (s : Bool) (M : Nat) (E : Int) (h1 : -5000 ≤ E) (h2 : E ≤ 5000) : roundT s M E false = Ieee.double.nearest s M E := by
  unfold roundT
  by_cases h : M = 0
  · rw [if_pos h, h, near_zero]
  · rw [if_neg h, Bool.false_and, show clampE E = E by unfold clampE; omega]
    unfold nearS
    rw [if_neg (by simp)]
end
theorem ev_const {α : Type} {x : Option α} {r : α} (h : x = some r) : Ev (fun _ => x) r := by rw [h]; exact Ev.now r
theorem ev_if {α : Type} {c : Prop} [Decidable c] {f g : Nat → Option α} {r : α} (h : c) (k : Ev f r) : Ev (fun n => if c then f n else g n) r := Ev.congr (fun _ => if_pos h) k
theorem ev_else {α : Type} {c : Prop} [Decidable c] {f g : Nat → Option α} {r : α} (h : ¬ c) (k : Ev g r) : Ev (fun n => if c then f n else g n) r := Ev.congr (fun _ => if_neg h) k
section
open Go.Proofs.Ytidhjpdcbmbicaa.CR Go.Proofs.Ytidhjpdcbmbicaa.CF Go.Proofs.Ytidhjpdcbmbicaa.CG Go.Proofs.Ytidhjpdcbmbicaa.CH Go.Proofs.Ytidhjpdcbmbicaa.CN Go.Proofs.Ytidhjpdcbmbicaa.CV Go.Proofs.Ytidhjpdcbmbicaa.CW
theorem impl_Sub_eq (a b : Nat) (ha : a < 18446744073709551616) (hb : b < 18446744073709551616) : impl_Sub.f (a : Int) (b : Int) = some ((addT a (negM b) : Nat) : Int) := by
  unfold impl_Sub.f
  rw [impl_neg_nat b hb, Option.bind_some, impl_Add_eq a _ ha (negM_lt b hb), Option.bind_some]
theorem num_nan {x m : Nat} {s : Bool} {e : Int} (hx : x < 18446744073709551616) (h : Ieee.double.read x = .number s m e) : nanB x = false := by
  cases hn : nanB x
  · rfl
  · obtain ⟨_, _, h2⟩ := (read_nan hx).2 hn
    rw [h] at h2; cases h2
theorem num_neg {x m : Nat} {s : Bool} {e : Int} (hx : x < 18446744073709551616) (h : Ieee.double.read x = .number s m e) : negM x = negT x := by
  unfold negM; rw [num_nan hx h, if_neg (by simp)]
theorem eq_same {x y m n : Nat} {s t : Bool} {i j : Int} (hi : -1074 ≤ i) (hj : -1074 ≤ j) (hx : Ieee.double.read x = .number s m i) (hy : Ieee.double.read y = .number t n j) (h : sg s (magV m i) = sg t (magV n j)) : eqT x y = true := by
  unfold eqT
  rw [order_mag hi hj hx hy, h, Int.compare_eq_eq.2 rfl]; rfl
theorem zero_sg (s : Bool) (i : Int) : sg s (magV 0 i) = 0 := by
  have h : magV 0 i = 0 := Nat.zero_mul _
  rw [h]; cases s <;> rfl
theorem not_less {x n : Nat} {t : Bool} {e j : Int} (h1 : -1074 ≤ e) (h2 : e ≤ 1000) (hj : -1074 ≤ j) (hx : Ieee.double.read x = .number t n j) (h : sg t (magV n j) ≤ ((2 ^ (e + 1074).toNat : Nat) : Int)) : ltT (roundT false 1 e false) x = false := by
  have hf : fits (2 ^ (e + 1074).toNat) := ⟨⟨1, _, by decide, (Nat.one_mul _).symm⟩, by rw [Nat.log2_two_pow]; omega⟩
  obtain ⟨m, k, r1, r2, r3, _⟩ := near_number false hf
  have hw : roundT false 1 e false = Ieee.double.nearest false (2 ^ (e + 1074).toNat) (-1074) := by
    rw [round_rest false 1 e (by omega) (by omega), ← rest_near false 1 e h1, Nat.one_mul]
    unfold restW wd
    rw [if_neg (by simp)]
  unfold ltT
  rw [hw, order_mag r2 hj r1 hx, cmp_lt, r3]
  refine decide_eq_false ?_
  have : sg false (2 ^ (e + 1074).toNat) = ((2 ^ (e + 1074).toNat : Nat) : Int) := rfl
  rw [this]
  exact Int.not_lt.2 h
theorem near_go (a b : Nat) (ha : a < 18446744073709551616) (hb : b < 18446744073709551616) {m n : Nat} {s t : Bool} {i j : Int} (hra : Ieee.double.read a = .number s m i) (hrb : Ieee.double.read b = .number t n j) (hij : j ≤ i) (hi9 : i ≤ 900) :
    Ev (fun k => laws_FnNear.j0 k (a : Int) (b : Int) false 4 s (m : Int) i 4 t (n : Int) j) true := by
  have hj : ∀ k, laws_FnNear.j0 (k + 1) (a : Int) (b : Int) false 4 s (m : Int) i 4 t (n : Int) j = (impl_Add.f (a : Int) (b : Int)).bind fun t249 => ((impl_Sub.f t249 (a : Int)).bind fun t250 => ((impl_Sub.f (b : Int) t250).bind fun t251 => (if (wrap64 (i - j)) > 52 then ((spec_Equal.f k t249 (a : Int)).bind fun t252 => (if t252 = true then (some true) else (some (t249 != (a : Int))))) else ((spec_PartsOfNumber.f k t249).bind fun bt253 => ((spec_PartsOfNumber.f k t251).bind fun bt258 => ((spec_Add.f k (a : Int) (b : Int)).bind fun t263 => (if t249 = t263 then (if bt258.1 = 3 then ((impl_Add.f t249 t251).bind fun t264 => ((spec_Equal.f k t264 t249).bind fun t265 => (some t265))) else (if bt253.1 = 3 then ((impl_Add.f t249 t251).bind fun t266 => ((spec_Equal.f k t266 t249).bind fun t267 => (some t267))) else ((spec_RoundTo.f k false 1 bt253.2.2.2 false).bind fun t268 => ((spec_Less.f k t268 t251).bind fun t269 => (if t269 = true then (some false) else ((impl_Add.f t249 t251).bind fun t270 => ((spec_Equal.f k t270 t249).bind fun t271 => (some t271)))))))) else (some false)))))))) := fun _ => rfl
  obtain ⟨_, am, ai, ai2, _, _, _⟩ := read_num ha hra
  obtain ⟨_, bn, bj, bj2, _, _, _⟩ := read_num hb hrb
  have hw : wrap64 (i - j) = i - j := w64 (by omega) (by omega)
  rw [hw] at hj
  have sl := addT_lt a b
  have na := num_neg ha hra
  have i1 := impl_Add_eq a b ha hb
  have i2 := impl_Sub_eq (addT a b) a sl ha
  rw [na] at i2
  have dl := addT_lt (addT a b) (negT a)
  have i3 := impl_Sub_eq b (addT (addT a b) (negT a)) hb dl
  refine Ev.step hj (Ev.bind (ev_const i1) (Ev.bind (ev_const i2) (Ev.bind (ev_const i3) ?_)))
  by_cases h52 : i - j > 52
  · refine ev_if h52 (Ev.bind (spec_Equal_eq (addT a b) a sl ha) ?_)
    by_cases he : eqT (addT a b) a = true
    · exact ev_if he (Ev.now true)
    · refine ev_else he ?_
      have : (((addT a b : Nat) : Int) != (a : Int)) = true := by
        simp only [bne_iff_ne, ne_eq]
        intro h
        have h' : addT a b = a := by omega
        rw [h'] at he
        exact he (eq_same ai ai hra hra rfl)
      rw [this]
      exact Ev.now true
  · obtain ⟨b1, m1, e1, b2, m2, e2, b3, m3, e3, r1, r2, r3, q1, q2, q3⟩ := near_sum ha hb hra hrb hij (by omega) hi9
    have nd := num_neg dl r2
    rw [nd]
    have ll := addT_lt b (negT (addT (addT a b) (negT a)))
    have i4 := impl_Add_eq (addT a b) (addT b (negT (addT (addT a b) (negT a)))) sl ll
    have s1 := spec_Add_eq a b ha hb
    have el := addT_lt (addT a b) (addT b (negT (addT (addT a b) (negT a))))
    have s2 := spec_Equal_eq (addT (addT a b) (addT b (negT (addT (addT a b) (negT a))))) (addT a b) el sl
    have g1 := (read_num sl r1).2.2.1
    have heq : eqT (addT (addT a b) (addT b (negT (addT (addT a b) (negT a))))) (addT a b) = true := by
      by_cases hz : m1 = 0
      · obtain ⟨_, b4, h4⟩ := q2 hz
        rw [h4]
        subst hz
        exact eq_same (by omega) g1 (enc_number b4) r1 (by rw [zero_sg, zero_sg])
      · rcases q1 with h | h
        · exact absurd h hz
        · rw [h]; exact eq_same g1 g1 r1 r1 rfl
    rw [heq] at s2
    have hend : Ev (fun k => (impl_Add.f ((addT a b : Nat) : Int) ((addT b (negT (addT (addT a b) (negT a))) : Nat) : Int)).bind fun t264 => ((spec_Equal.f k t264 ((addT a b : Nat) : Int)).bind fun t265 => (some t265))) true :=
      Ev.bind (ev_const i4) (Ev.bind s2 (Ev.now true))
    clear i1 i2 i3 i4 heq s2 nd hj
    have p1 := parts_is sl r1
    have p3 := parts_is ll r3
    refine ev_else h52 (Ev.bind p1 (Ev.bind p3 (Ev.bind s1 (ev_if rfl ?_))))
    by_cases h3 : m3 = 0
    · exact ev_if (by unfold partsR; simp only [if_pos h3]) hend
    · refine ev_else (by unfold partsR; simp only [if_neg h3]; decide) ?_
      by_cases h1 : m1 = 0
      · exact absurd (q2 h1).1 h3
      · rcases q3 with h | h | ⟨o1, o2, o3, o4⟩
        · exact absurd h h3
        · exact absurd h h1
        · have hp : partsR (.number b1 m1 e1) = (4, b1, (m1 : Int), e1) := by unfold partsR; simp only [if_neg h1]
          rw [hp]
          have sr := spec_round false 1 (by decide) e1 false
          have lt := spec_Less_eq (roundT false 1 e1 false) (addT b (negT (addT (addT a b) (negT a)))) (round_lt ..) ll
          rw [not_less o2 o3 o4 r3 o1] at lt
          exact ev_else (show ¬ (4 : Int) = 3 by decide) (Ev.bind sr (Ev.bind lt (ev_else (by decide) hend)))
theorem FnNear : laws_FnNear.Pure := by
  intro l _ hl _
  rw [Nat.mul_one] at hl
  refine Ev.rounds ?_
  unfold laws_FnNear.f laws_big.f
  simp only [Option.bind_some]
  by_cases hb : (l.length : Int) > 1048576
  · rw [decide_eq_true hb]
    simp only [if_true]
    exact Ev.now true
  · rw [decide_eq_false hb]
    simp only [Bool.false_eq_true, if_false]
    obtain ⟨a, b, c, e, ha, hb, hc⟩ := spec_numbers l hl
    have i1 := impl_Add_eq a b ha hb
    have s1 := spec_Add_eq a b ha hb
    have htrue : ∀ p1 p2 p3 p4 q1 q2 q3 q4, Ev (fun k => laws_FnNear.j0 k (a : Int) (b : Int) true p1 p2 p3 p4 q1 q2 q3 q4) true := by
      intro p1 p2 p3 p4 q1 q2 q3 q4
      have hj : ∀ k, laws_FnNear.j0 (k + 1) (a : Int) (b : Int) true p1 p2 p3 p4 q1 q2 q3 q4 = (impl_Add.f (a : Int) (b : Int)).bind fun t247 => ((spec_Add.f k (a : Int) (b : Int)).bind fun t248 => (some (t247 == t248))) := fun _ => rfl
      refine Ev.step hj (Ev.bind (ev_const i1) (Ev.bind s1 ?_))
      rw [beq_self_eq_true]
      exact Ev.now true
    refine Ev.bind e ?_
    have pa := spec_parts a ha
    have pb := spec_parts b hb
    rw [parts_read a ha] at pa
    rw [parts_read b hb] at pb
    refine Ev.bind pa (Ev.bind pb ?_)
    cases hra : Ieee.double.read a with
    | nan s f => exact ev_else (show ¬ (1 : Int) = 4 by decide) (htrue ..)
    | infinity s => exact ev_else (show ¬ (2 : Int) = 4 by decide) (htrue ..)
    | number s m i =>
      by_cases hm : m = 0
      · have hp : partsR (.number s m i) = (3, s, 0, 0) := by unfold partsR; simp only [if_pos hm]
        rw [hp]
        exact ev_else (show ¬ (3 : Int) = 4 by decide) (htrue ..)
      · have hp : partsR (.number s m i) = (4, s, (m : Int), i) := by unfold partsR; simp only [if_neg hm]
        rw [hp]
        refine ev_if rfl ?_
        cases hrb : Ieee.double.read b with
        | nan s f => exact ev_else (show ¬ (1 : Int) = 4 by decide) (htrue ..)
        | infinity s => exact ev_else (show ¬ (2 : Int) = 4 by decide) (htrue ..)
        | number t n j =>
          by_cases hn : n = 0
          · have hp : partsR (.number t n j) = (3, t, 0, 0) := by unfold partsR; simp only [if_pos hn]
            rw [hp]
            exact ev_else (show ¬ (3 : Int) = 4 by decide) (htrue ..)
          · have hp : partsR (.number t n j) = (4, t, (n : Int), j) := by unfold partsR; simp only [if_neg hn]
            rw [hp]
            refine ev_if rfl ?_
            by_cases hij : i < j
            · exact ev_if hij (htrue ..)
            · refine ev_else (c := i < j) hij ?_
              by_cases hi9 : i > 900
              · have : decide ((4, s, (m : Int), i).2.2.2 > 900) = true := decide_eq_true hi9
                rw [this]
                exact htrue ..
              · have : decide ((4, s, (m : Int), i).2.2.2 > 900) = false := decide_eq_false hi9
                rw [this]
                exact near_go a b ha hb hra hrb (Int.not_lt.1 hij) (Int.not_lt.1 hi9)
end
end Go.Proofs.Ytidhjpdcbmbicaa.Pure
