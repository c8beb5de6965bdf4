/- Positive numbers of 64 bits as wholes of the least unit: plain lemmas. No condition beyond those typed. -/
import Derived.Test.YtidhjpdcbmbicaaCN
namespace Go.Proofs.Ytidhjpdcbmbicaa.CV
open Ieee Go.Proofs.Ytidhjpdcbmbicaa.CR Go.Proofs.Ytidhjpdcbmbicaa.CF Go.Proofs.Ytidhjpdcbmbicaa.CG Go.Proofs.Ytidhjpdcbmbicaa.CH Go.Proofs.Ytidhjpdcbmbicaa.CN

/-- The word of so many least units. -/
def wd (V : Nat) : Nat := double.nearest false V (-1074)
/-- A number that a word has: 53 binary figures at most. -/
def rep (V : Nat) : Prop := ∃ m e : Nat, m < 9007199254740992 ∧ V = m * 2 ^ e
/-- Its mantissa brought to 53 figures. -/
def nm (V : Nat) : Nat := if V.log2 ≤ 52 then V * 2 ^ (52 - V.log2) else V / 2 ^ (V.log2 - 52)
def fits (V : Nat) : Prop := rep V ∧ V.log2 ≤ 2097
theorem wd_zero : wd 0 = 0 := near_zero _ _
theorem rep_big {V : Nat} (h : rep V) (hL : 52 ≤ V.log2) : V = V / 2 ^ (V.log2 - 52) * 2 ^ (V.log2 - 52) := by
  obtain ⟨m, e, hm, rfl⟩ := h
  by_cases h0 : m = 0
  · subst h0; rw [Nat.zero_mul, Nat.zero_div, Nat.zero_mul]
  · have hl : (m * 2 ^ e).log2 = m.log2 + e := log_shift m e h0
    have hm2 : m.log2 < 53 := log_mono hm h0
    rw [hl]
    obtain ⟨c, hc⟩ : ∃ c, e = c + (m.log2 + e - 52) := ⟨e - (m.log2 + e - 52), by omega⟩
    have e1 : m * 2 ^ e = m * 2 ^ c * 2 ^ (m.log2 + e - 52) := by
      conv => lhs; rw [hc]
      rw [Nat.pow_add, Nat.mul_assoc]
    rw [e1, Nat.mul_div_cancel _ (Nat.pow_pos (by omega))]
theorem nm_range {V : Nat} (h0 : V ≠ 0) : 4503599627370496 ≤ nm V ∧ nm V < 9007199254740992 := by
  have h1 := log_le h0
  have h2 := lt_log V
  unfold nm
  by_cases h : V.log2 ≤ 52
  · rw [if_pos h]
    constructor
    · have : 2 ^ V.log2 * 2 ^ (52 - V.log2) ≤ V * 2 ^ (52 - V.log2) := Nat.mul_le_mul_right _ h1
      rw [← Nat.pow_add, show V.log2 + (52 - V.log2) = 52 by omega] at this
      exact this
    · have : V * 2 ^ (52 - V.log2) < 2 ^ (V.log2 + 1) * 2 ^ (52 - V.log2) := Nat.mul_lt_mul_of_pos_right h2 (Nat.pow_pos (by omega))
      rw [← Nat.pow_add, show V.log2 + 1 + (52 - V.log2) = 53 by omega] at this
      exact this
  · rw [if_neg h]
    constructor
    · refine (Nat.le_div_iff_mul_le (Nat.pow_pos (by omega))).2 ?_
      rw [show (4503599627370496 : Nat) = 2 ^ 52 from rfl, ← Nat.pow_add, show 52 + (V.log2 - 52) = V.log2 by omega]
      exact h1
    · refine (Nat.div_lt_iff_lt_mul (Nat.pow_pos (by omega))).2 ?_
      rw [show (9007199254740992 : Nat) = 2 ^ 53 from rfl, ← Nat.pow_add, show 53 + (V.log2 - 52) = V.log2 + 1 by omega]
      exact h2
/-- A small number's word. -/
theorem wd_low {V : Nat} (h : V < 9007199254740992) : wd V = V ∧ double.read (wd V) = .number false V (-1074) := by
  have h1 : wd V = V := by
    unfold wd
    rw [near_self h (by omega) (by omega) (fun h => absurd rfl h) (fun _ => rfl)]
    unfold enc
    simp
  have h2 := read_enc false V (-1074) h (by omega) (by omega) (fun h => absurd rfl h)
  refine ⟨h1, ?_⟩
  rw [h1]
  have h3 : enc false ((-1074 + 1074 : Int).toNat * 4503599627370496 + V) = V := by unfold enc; simp
  rw [h3] at h2
  exact h2
/-- A number's word, of 53 figures. -/
theorem wd_high {V : Nat} (h : fits V) (hL : 52 ≤ V.log2) : wd V = (V.log2 - 52) * 4503599627370496 + nm V ∧ double.read (wd V) = .number false (nm V) (V.log2 - 52 - 1074) := by
  have h0 : V ≠ 0 := by intro hz; rw [hz] at hL; exact absurd hL (by decide)
  obtain ⟨r1, r2⟩ := nm_range h0
  have hV := rep_big h.1 hL
  have hn : nm V * 2 ^ (V.log2 - 52) = V := by
    unfold nm
    by_cases h52 : V.log2 ≤ 52
    · rw [if_pos h52, show 52 - V.log2 = 0 by omega, show V.log2 - 52 = 0 by omega, Nat.pow_zero, Nat.mul_one, Nat.mul_one]
    · rw [if_neg h52]; exact hV.symm
  have hlim := h.2
  have hs := near_scale false (nm V) (V.log2 - 52) (V.log2 - 52 - 1074) (by omega)
  rw [hn, show ((V.log2 : Int) - 52 - 1074 - ((V.log2 - 52 : Nat) : Int)) = -1074 by omega] at hs
  have h1 : wd V = enc false (((V.log2 : Int) - 52 - 1074 + 1074).toNat * 4503599627370496 + nm V) := by
    unfold wd
    rw [hs, near_self r2 (by omega) (by omega) (fun _ => r1) (fun h => by omega)]
  constructor
  · rw [h1]
    unfold enc
    rw [if_neg (by simp), show ((V.log2 : Int) - 52 - 1074 + 1074).toNat = V.log2 - 52 by omega]
  · rw [h1]
    exact read_enc false (nm V) _ r2 (by omega) (by omega) (fun _ => r1)
/-- A number's word stands for it. -/
theorem wd_read {V : Nat} (h : fits V) : ∃ (m : Nat) (e : Int), double.read (wd V) = .number false m e ∧ -1074 ≤ e ∧ m * 2 ^ (e + 1074).toNat = V ∧ (V ≠ 0 → m ≠ 0) := by
  by_cases hL : 52 ≤ V.log2
  · obtain ⟨_, h2⟩ := wd_high h hL
    have h0 : V ≠ 0 := by intro hz; rw [hz] at hL; exact absurd hL (by decide)
    have hV := rep_big h.1 hL
    refine ⟨_, _, h2, by omega, ?_, fun _ => by have := (nm_range h0).1; omega⟩
    rw [show ((V.log2 : Int) - 52 - 1074 + 1074).toNat = V.log2 - 52 by omega]
    unfold nm
    by_cases h52 : V.log2 ≤ 52
    · rw [if_pos h52, show 52 - V.log2 = 0 by omega, show V.log2 - 52 = 0 by omega, Nat.pow_zero, Nat.mul_one, Nat.mul_one]
    · rw [if_neg h52]; exact hV.symm
  · have hlt : V < 9007199254740992 := Nat.lt_of_lt_of_le (lt_log V) (Nat.le_trans (Nat.pow_le_pow_right (by omega) (show V.log2 + 1 ≤ 53 by omega)) (Nat.le_of_eq rfl))
    refine ⟨V, -1074, (wd_low hlt).2, by omega, ?_, fun h => h⟩
    rw [show (-1074 + 1074 : Int).toNat = 0 from rfl, Nat.pow_zero, Nat.mul_one]
theorem wd_lt (V : Nat) : wd V < 9223372036854775808 := by
  unfold wd
  by_cases h : V = 0
  · subst h; rw [near_zero]; decide
  · rw [near_eq false V _ h]
    unfold packN enc
    rw [if_neg (by simp)]
    have := Nat.min_le_right ((lastP V (-1074) + 1074).toNat * 4503599627370496 + rne (V * 2 ^ (-1074 - lastP V (-1074)).toNat) (lastP V (-1074) - -1074).toNat) 9218868437227405312
    omega
theorem wd_nan (V : Nat) : nanB (wd V) = false := (near_notnan _ _ _).1
/-- What a word of a positive number stands for. -/
theorem fits_read {x m : Nat} {e : Int} (hx : x < 18446744073709551616) (h : double.read x = .number false m e) : fits (magV m e) ∧ wd (magV m e) = x := by
  obtain ⟨_, a1, a2, a3, a4, _, a6⟩ := read_num hx h
  have hself := near_read hx h
  refine ⟨⟨⟨m, (e + 1074).toNat, a1, rfl⟩, ?_⟩, ?_⟩
  · by_cases h0 : m = 0
    · unfold magV; rw [h0, Nat.zero_mul]; decide
    · have := log_mono (k := 53) a1 h0
      unfold magV; rw [log_shift _ _ h0]; omega
  · by_cases h0 : m = 0
    · unfold magV wd
      rw [h0, Nat.zero_mul, near_zero, ← hself, h0, near_zero]
    · have := near_scale false m (e + 1074).toNat e h0
      rw [show e - (((e + 1074).toNat : Nat) : Int) = -1074 by omega, hself] at this
      exact this
theorem order_mag {x y m n : Nat} {s t : Bool} {i j : Int} (hi : -1074 ≤ i) (hj : -1074 ≤ j) (hx : double.read x = .number s m i) (hy : double.read y = .number t n j) : double.order x y = some (compare (sg s (magV m i)) (sg t (magV n j))) := by
  unfold Format.order
  rw [hx, hy]
  unfold Datum.order
  simp only
  have hk : ∀ (b : Bool) (m : Nat) (e : Int), min i j ≤ e → signed b m (e - min i j).toNat * ((2 ^ (min i j + 1074).toNat : Nat) : Int) = sg b (magV m e) := by
    intro b m e he
    rw [signed_sg]
    unfold magV
    rw [Int.mul_assoc, ← Int.natCast_mul, ← Nat.pow_add, show (e - min i j).toNat + (min i j + 1074).toNat = (e + 1074).toNat by omega]
    unfold sg
    cases b
    · simp
    · simp [Int.neg_mul]
  rw [← cmp_scale _ _ (2 ^ (min i j + 1074).toNat) (Nat.pow_pos (by omega)), hk s m i (by omega), hk t n j (by omega)]
theorem order_wd {U V : Nat} (hU : fits U) (hV : fits V) : double.order (wd U) (wd V) = some (compare (U : Int) (V : Int)) := by
  obtain ⟨m, i, h1, h2, h3, _⟩ := wd_read hU
  obtain ⟨n, j, q1, q2, q3, _⟩ := wd_read hV
  rw [order_mag h2 q2 h1 q1]
  unfold magV
  rw [h3, q3]
  rfl
theorem sub_fits {U V : Nat} (hU : fits U) (hV : fits V) (h1 : V ≤ U) (h2 : U ≤ 2 * V) : fits (U - V) := by
  obtain ⟨⟨m, a, hm, rfl⟩, hl⟩ := hU
  obtain ⟨⟨n, c, hn, rfl⟩, hl2⟩ := hV
  refine ⟨?_, ?_⟩
  · rcases Nat.le_total c a with h | h
    · obtain ⟨d, rfl⟩ := Nat.le.dest h
      refine ⟨m * 2 ^ d - n, c, ?_, ?_⟩
      · have e1 : m * 2 ^ (c + d) = m * 2 ^ d * 2 ^ c := by rw [Nat.add_comm c d, Nat.pow_add, Nat.mul_assoc]
        rw [e1, ← Nat.mul_assoc] at h2
        have := Nat.le_of_mul_le_mul_right h2 (Nat.pow_pos (by omega))
        omega
      · rw [Nat.sub_mul, Nat.mul_assoc, ← Nat.pow_add, Nat.add_comm d c]
    · obtain ⟨d, rfl⟩ := Nat.le.dest h
      refine ⟨m - n * 2 ^ d, a, by omega, ?_⟩
      rw [Nat.sub_mul, Nat.mul_assoc n, ← Nat.pow_add, Nat.add_comm d a]
  · by_cases h0 : m * 2 ^ a - n * 2 ^ c = 0
    · rw [h0]; decide
    · have h3 := log_le h0
      have h4 : 2 ^ (m * 2 ^ a - n * 2 ^ c).log2 ≤ m * 2 ^ a := Nat.le_trans h3 (Nat.sub_le _ _)
      have h5 := log_ge h4
      omega
/-- A difference of numbers that are near is just. -/
theorem sub_wd {U V : Nat} (hU : fits U) (hV : fits V) (h1 : V ≤ U) : double.sub (wd U) (wd V) = some (wd (U - V)) := by
  obtain ⟨m, i, p1, p2, p3, _⟩ := wd_read hU
  obtain ⟨n, j, q1, q2, q3, _⟩ := wd_read hV
  unfold Format.sub
  rw [p1, q1]
  unfold Datum.opposite Datum.sum
  simp only [Option.map_some, Option.some.injEq, Bool.false_and]
  unfold Format.write
  simp only
  have hk : (signed false m (i - min i j).toNat + signed (!false) n (j - min i j).toNat) * ((2 ^ (min i j + 1074).toNat : Nat) : Int) = ((U - V : Nat) : Int) := by
    rw [Int.add_mul, signed_sg, signed_sg, Int.mul_assoc, Int.mul_assoc, ← Int.natCast_mul, ← Int.natCast_mul, ← Nat.pow_add, ← Nat.pow_add, show (i - min i j).toNat + (min i j + 1074).toNat = (i + 1074).toNat by omega, show (j - min i j).toNat + (min i j + 1074).toNat = (j + 1074).toNat by omega]
    unfold sg
    simp only [Bool.false_eq_true, if_false, Bool.not_false, if_true, Int.neg_mul]
    rw [← Int.natCast_mul, ← Int.natCast_mul, p3, q3]
    omega
  generalize signed false m (i - min i j).toNat + signed (!false) n (j - min i j).toNat = T at *
  have hp : 0 < 2 ^ (min i j + 1074).toNat := Nat.pow_pos (by omega)
  have hT : 0 ≤ T := by
    by_cases h : 0 ≤ T
    · exact h
    · have := Int.mul_neg_of_neg_of_pos (show T < 0 by omega) (show (0 : Int) < ((2 ^ (min i j + 1074).toNat : Nat) : Int) by omega)
      omega
  obtain ⟨t, rfl⟩ : ∃ t : Nat, T = t := ⟨T.toNat, by omega⟩
  rw [← Int.natCast_mul] at hk
  have hk' : t * 2 ^ (min i j + 1074).toNat = U - V := Int.ofNat_inj.1 hk
  have hd : (if (t : Int) = 0 then false else decide ((t : Int) < 0)) = false := by
    split
    · rfl
    · exact decide_eq_false (by omega)
  rw [hd, Int.natAbs_natCast]
  unfold wd
  by_cases h0 : t = 0
  · subst h0
    rw [← hk', Nat.zero_mul, near_zero, near_zero]
  · have := near_scale false t (min i j + 1074).toNat (min i j) h0
    rw [hk', show min i j - (((min i j + 1074).toNat : Nat) : Int) = -1074 by omega] at this
    exact this.symm
theorem mul_some_fin {x y m n : Nat} {s t : Bool} {i j : Int} (hx : double.read x = .number s m i) (hy : double.read y = .number t n j) : double.mul x y = some (double.nearest (s ^^ t) (m * n) (i + j)) := by
  unfold Format.mul
  rw [hx, hy]; rfl
theorem read_pow52 : double.read 4841369599423283200 = .number false 4503599627370496 0 := by decide
theorem read_pow53 : double.read 4368491638549381120 = .number false 4503599627370496 (-105) := by decide
/-- Times 2^52. -/
theorem mul_pow52 {V : Nat} (hV : fits V) (h0 : V ≠ 0) : double.mul (wd V) 4841369599423283200 = some (wd (V * 2 ^ 52)) := by
  obtain ⟨m, i, p1, p2, p3, p4⟩ := wd_read hV
  have hm := p4 h0
  rw [mul_some_fin p1 read_pow52, show (false ^^ false) = false from rfl]
  refine congrArg some ?_
  unfold wd
  have h1 := near_scale false m 52 (i + 52) hm
  have h2 := near_scale false m ((i + 1074).toNat + 52) (i + 52) hm
  rw [show (4503599627370496 : Nat) = 2 ^ 52 from rfl, show i + 0 = i + 52 - ((52 : Nat) : Int) by omega, ← p3, Nat.mul_assoc, ← Nat.pow_add]
  rw [show i + 52 - (((i + 1074).toNat + 52 : Nat) : Int) = -1074 by omega] at h2
  rw [h2, h1]
theorem fits_shift {V k : Nat} (hV : fits V) (h : (V * 2 ^ k).log2 ≤ 2097) : fits (V * 2 ^ k) := by
  obtain ⟨⟨m, e, hm, rfl⟩, _⟩ := hV
  exact ⟨⟨m, e + k, hm, by rw [Nat.pow_add, Nat.mul_assoc]⟩, h⟩
/-- The steps of a rest: the greatest multiple by a power of 2 that isn't above. -/
theorem step_range {R Y : Nat} (hY : Y ≠ 0) (h : Y ≤ R) (hR : fits R) (hYf : fits Y) : (nm R < nm Y → Y.log2 + 1 ≤ R.log2 ∧ Y * 2 ^ (R.log2 - 1 - Y.log2) ≤ R ∧ R < 2 * (Y * 2 ^ (R.log2 - 1 - Y.log2))) ∧ (¬ nm R < nm Y → Y.log2 ≤ R.log2 ∧ Y * 2 ^ (R.log2 - Y.log2) ≤ R ∧ R < 2 * (Y * 2 ^ (R.log2 - Y.log2))) := by
  have hR0 : R ≠ 0 := by omega
  have y1 := log_le hY
  have y2 := lt_log Y
  have r1 := log_le hR0
  have r2 := lt_log R
  have hlog : Y.log2 ≤ R.log2 := log_ge (Nat.le_trans y1 h)
  -- the mantissas, at one place
  have hnm : ∀ V : Nat, fits V → V ≠ 0 → nm V * 2 ^ V.log2 = V * 2 ^ 52 := by
    intro V hV h0
    unfold nm
    by_cases h52 : V.log2 ≤ 52
    · rw [if_pos h52, Nat.mul_assoc, ← Nat.pow_add, show 52 - V.log2 + V.log2 = 52 by omega]
    · rw [if_neg h52]
      have := rep_big hV.1 (by omega)
      have e1 : (2 : Nat) ^ V.log2 = 2 ^ (V.log2 - 52) * 2 ^ 52 := by rw [← Nat.pow_add]; congr 1; omega
      rw [e1, ← Nat.mul_assoc, ← this]
  have hcmp : nm R < nm Y ↔ R * 2 ^ Y.log2 < Y * 2 ^ R.log2 := by
    have q1 := hnm R hR hR0
    have q2 := hnm Y hYf hY
    have p1 : 0 < 2 ^ R.log2 := Nat.pow_pos (by omega)
    have p2 : 0 < 2 ^ Y.log2 := Nat.pow_pos (by omega)
    have p3 : 0 < 2 ^ 52 := Nat.pow_pos (n := 52) (show 0 < 2 by omega)
    have e1 : nm R * (2 ^ R.log2 * 2 ^ Y.log2) = R * 2 ^ Y.log2 * 2 ^ 52 := by rw [← Nat.mul_assoc, q1, Nat.mul_right_comm]
    have e2 : nm Y * (2 ^ R.log2 * 2 ^ Y.log2) = Y * 2 ^ R.log2 * 2 ^ 52 := by rw [Nat.mul_comm (2 ^ R.log2), ← Nat.mul_assoc, q2, Nat.mul_right_comm]
    constructor
    · intro hlt
      have := Nat.mul_lt_mul_of_pos_right hlt (Nat.mul_pos p1 p2)
      rw [e1, e2] at this
      exact Nat.lt_of_mul_lt_mul_right this
    · intro hlt
      have := Nat.mul_lt_mul_of_pos_right hlt p3
      rw [← e1, ← e2] at this
      exact Nat.lt_of_mul_lt_mul_right this
  rw [hcmp]
  constructor
  · intro hlt
    have hne : Y.log2 ≠ R.log2 := by
      intro he
      rw [he] at hlt
      have := Nat.lt_of_mul_lt_mul_right hlt
      omega
    obtain ⟨k, hk⟩ : ∃ k, R.log2 = Y.log2 + 1 + k := ⟨R.log2 - Y.log2 - 1, by omega⟩
    rw [hk, show Y.log2 + 1 + k - 1 - Y.log2 = k by omega]
    rw [hk] at hlt r1
    have p2 : 0 < 2 ^ Y.log2 := Nat.pow_pos (by omega)
    have p3 : 0 < 2 ^ k := Nat.pow_pos (by omega)
    refine ⟨by omega, ?_, ?_⟩
    · have : Y * 2 ^ k ≤ 2 ^ (Y.log2 + 1) * 2 ^ k := Nat.mul_le_mul_right _ (Nat.le_of_lt y2)
      rw [← Nat.pow_add] at this
      exact Nat.le_trans this r1
    · have e1 : Y * 2 ^ (Y.log2 + 1 + k) = 2 * (Y * 2 ^ k) * 2 ^ Y.log2 := by
        rw [show Y.log2 + 1 + k = k + 1 + Y.log2 by omega, Nat.pow_add, Nat.pow_succ, ← Nat.mul_assoc, ← Nat.mul_assoc]
        congr 1
        omega
      rw [e1] at hlt
      exact Nat.lt_of_mul_lt_mul_right hlt
  · intro hge
    obtain ⟨k, hk⟩ : ∃ k, R.log2 = Y.log2 + k := ⟨R.log2 - Y.log2, by omega⟩
    rw [hk, show Y.log2 + k - Y.log2 = k by omega]
    rw [hk] at hge r2
    have p2 : 0 < 2 ^ Y.log2 := Nat.pow_pos (by omega)
    refine ⟨by omega, ?_, ?_⟩
    · have e1 : Y * 2 ^ (Y.log2 + k) = Y * 2 ^ k * 2 ^ Y.log2 := by
        rw [Nat.add_comm, Nat.pow_add, Nat.mul_assoc]
      rw [e1] at hge
      exact Nat.le_of_mul_le_mul_right (by omega) p2
    · have : 2 ^ Y.log2 * (2 * 2 ^ k) ≤ Y * (2 * 2 ^ k) := Nat.mul_le_mul_right _ y1
      have e1 : (2 : Nat) ^ (Y.log2 + k + 1) = 2 ^ Y.log2 * (2 * 2 ^ k) := by rw [Nat.pow_succ, Nat.pow_add, Nat.mul_assoc, Nat.mul_comm (2 ^ k) 2]
      have e2 : Y * (2 * 2 ^ k) = 2 * (Y * 2 ^ k) := by rw [Nat.mul_left_comm]
      omega
end Go.Proofs.Ytidhjpdcbmbicaa.CV
