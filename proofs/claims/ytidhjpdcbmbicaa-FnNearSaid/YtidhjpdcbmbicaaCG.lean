/- The standard's operations on numbers of 64 bits by plain whole numbers. No condition beyond those typed. -/
import Derived.Test.YtidhjpdcbmbicaaCF
import Ieee.Arith
namespace Go.Proofs.Ytidhjpdcbmbicaa.CG
open Ieee Go.Proofs.Ytidhjpdcbmbicaa.CR Go.Proofs.Ytidhjpdcbmbicaa.CF

def sgn (x : Nat) : Bool := decide (9223372036854775808 ≤ x)
theorem read_def (x : Nat) (hx : x < 18446744073709551616) : double.read x =
    if x % 9223372036854775808 < 4503599627370496 then .number (sgn x) (x % 9223372036854775808) (-1074)
    else if x % 9223372036854775808 < 9218868437227405312 then .number (sgn x) (4503599627370496 + x % 4503599627370496) (((x / 4503599627370496 % 2048 : Nat) : Int) - 1075)
    else if x % 9223372036854775808 = 9218868437227405312 then .infinity (sgn x) else .nan (sgn x) (x % 9223372036854775808 - 9218868437227405312) := by
  have e1 : double.signWeight = 9223372036854775808 := by decide
  have e2 : double.binade = 4503599627370496 := by decide
  have e3 : double.infRung = 9218868437227405312 := by decide
  have e4 : double.leastPlace = -1074 := by decide
  have e5 : (x / 9223372036854775808 % 2 == 1) = sgn x := by
    unfold sgn
    rw [Bool.eq_iff_iff]; simp; omega
  unfold Format.read
  simp only [e1, e2, e3, e4, e5]
  by_cases h1 : x % 9223372036854775808 < 4503599627370496
  · rw [if_pos h1, if_pos h1]
  · rw [if_neg h1, if_neg h1]
    by_cases h2 : x % 9223372036854775808 < 9218868437227405312
    · rw [if_pos h2, if_pos h2, show x % 9223372036854775808 % 4503599627370496 = x % 4503599627370496 by omega]
      congr 1
      omega
    · rw [if_neg h2, if_neg h2]
/-- A finite number's parts. -/
theorem read_num {x m : Nat} {b : Bool} {e : Int} (hx : x < 18446744073709551616) (h : double.read x = .number b m e) :
    b = sgn x ∧ m < 9007199254740992 ∧ -1074 ≤ e ∧ e ≤ 971 ∧ (e ≠ -1074 → 4503599627370496 ≤ m) ∧ x = enc b ((e + 1074).toNat * 4503599627370496 + m) ∧ (m = 0 → e = -1074) := by
  rw [read_def x hx] at h
  split at h
  · injection h with h1 h2 h3
    subst h1 h2 h3
    refine ⟨rfl, by omega, by omega, by omega, fun h => absurd rfl h, ?_, fun _ => rfl⟩
    unfold enc sgn
    by_cases h : 9223372036854775808 ≤ x
    · rw [decide_eq_true h, if_pos rfl]; omega
    · rw [decide_eq_false h, if_neg (by simp)]; omega
  · split at h
    · injection h with h1 h2 h3
      subst h1 h2 h3
      refine ⟨rfl, by omega, by omega, by omega, fun _ => by omega, ?_, fun _ => by omega⟩
      unfold enc sgn
      by_cases h : 9223372036854775808 ≤ x
      · rw [decide_eq_true h, if_pos rfl]; omega
      · rw [decide_eq_false h, if_neg (by simp)]; omega
    · split at h <;> cases h
theorem read_inf {x : Nat} {b : Bool} (hx : x < 18446744073709551616) (h : double.read x = .infinity b) : b = sgn x ∧ x = enc b 9218868437227405312 := by
  rw [read_def x hx] at h
  split at h
  · cases h
  · split at h
    · cases h
    · split at h
      · injection h with h1
        subst h1
        refine ⟨rfl, ?_⟩
        unfold enc sgn
        by_cases h : 9223372036854775808 ≤ x
        · rw [decide_eq_true h, if_pos rfl]; omega
        · rw [decide_eq_false h, if_neg (by simp)]; omega
      · cases h
theorem write_inf (b : Bool) : double.write (.infinity b) = enc b 9218868437227405312 := by
  unfold Format.write Format.word enc
  rfl
theorem lastP_self {m : Nat} {e : Int} (h0 : m ≠ 0) (hm : m < 9007199254740992) (he : -1074 ≤ e) (hn : e ≠ -1074 → 4503599627370496 ≤ m) : lastP m e = e := by
  have h1 : m.log2 < 53 := log_mono hm h0
  unfold lastP
  by_cases h : e = -1074
  · subst h; omega
  · have h2 := log_ge (n := m) (k := 52) (hn h)
    omega
theorem near_self {b : Bool} {m : Nat} {e : Int} (hm : m < 9007199254740992) (he : -1074 ≤ e) (he2 : e ≤ 971) (hn : e ≠ -1074 → 4503599627370496 ≤ m) (hz : m = 0 → e = -1074) : double.nearest b m e = enc b ((e + 1074).toNat * 4503599627370496 + m) := by
  by_cases h0 : m = 0
  · obtain rfl := h0
    obtain rfl := hz rfl
    rw [near_zero]; rfl
  · have hl := lastP_self h0 hm he hn
    rw [near_down b m e h0 (by omega), hl, Int.sub_self, show (0 : Int).toNat = 0 from rfl, rne_zero]
    unfold packN
    rw [Nat.min_eq_left (by omega)]
theorem near_read {x m : Nat} {b : Bool} {e : Int} (hx : x < 18446744073709551616) (h : double.read x = .number b m e) : double.nearest b m e = x := by
  obtain ⟨_, h2, h3, h4, h5, h6, h7⟩ := read_num hx h
  rw [near_self h2 h3 h4 h5 h7, ← h6]
/-! ### Sums -/
def nanW : Nat := 9221120237041090560
def addT (x y : Nat) : Nat := (double.add x y).getD nanW
theorem sum_comm (p q : Datum) : p.sum q = q.sum p := by
  cases p with
  | nan => cases q <;> rfl
  | infinity s =>
    cases q with
    | nan => rfl
    | infinity t =>
      unfold Datum.sum
      by_cases h : s = t
      · subst h; rfl
      · simp only [if_neg h, if_neg (fun h2 : t = s => h h2.symm)]
    | number t n j => rfl
  | number s m i =>
    cases q with
    | nan => rfl
    | infinity t => rfl
    | number t n j =>
      unfold Datum.sum
      simp only
      rw [Int.min_comm j i, Int.add_comm (signed t n _), Bool.and_comm t s]
theorem addT_comm (x y : Nat) : addT x y = addT y x := by
  unfold addT Format.add
  rw [sum_comm]
theorem signed_eq (s : Bool) (m u : Nat) : signed s m u = if s then -((m * 2 ^ u : Nat) : Int) else ((m * 2 ^ u : Nat) : Int) := by
  unfold signed
  rw [Nat.shiftLeft_eq]
theorem add_ge {x y m n : Nat} {s t : Bool} {i j : Int} (hx : double.read x = .number s m i) (hy : double.read y = .number t n j) (hij : j ≤ i) :
    addT x y = if s = t then double.nearest s (m * 2 ^ (i - j).toNat + n) j else if m * 2 ^ (i - j).toNat = n then 0 else if n < m * 2 ^ (i - j).toNat then double.nearest s (m * 2 ^ (i - j).toNat - n) j else double.nearest t (n - m * 2 ^ (i - j).toNat) j := by
  unfold addT Format.add
  rw [hx, hy]
  unfold Datum.sum
  simp only [Option.map_some, Option.getD_some, signed_eq]
  rw [Int.min_eq_right hij, Int.sub_self, show (0 : Int).toNat = 0 from rfl, Nat.pow_zero, Nat.mul_one]
  generalize m * 2 ^ (i - j).toNat = A
  unfold Format.write
  simp only
  cases s <;> cases t
  · simp only [if_true, Bool.false_eq_true, if_false, Bool.and_false]
    rw [show (((A : Nat) : Int) + (n : Int)).natAbs = A + n by omega]
    by_cases h : (A : Int) + n = 0
    · rw [if_pos h]
    · rw [if_neg h, decide_eq_false (by omega)]
  · simp only [if_true, Bool.false_eq_true, if_false, Bool.and_true]
    by_cases h1 : A = n
    · rw [if_pos h1, if_pos (by omega), show ((A : Int) + -(n : Int)).natAbs = 0 by omega, near_zero]; rfl
    · rw [if_neg h1, if_neg (by omega)]
      by_cases h2 : n < A
      · rw [if_pos h2, decide_eq_false (by omega), show ((A : Int) + -(n : Int)).natAbs = A - n by omega]
      · rw [if_neg h2, decide_eq_true (by omega), show ((A : Int) + -(n : Int)).natAbs = n - A by omega]
  · simp only [if_true, Bool.true_eq_false, if_false, Bool.and_false, Bool.false_eq_true]
    by_cases h1 : A = n
    · rw [if_pos h1, if_pos (by omega), show (-(A : Int) + (n : Int)).natAbs = 0 by omega, near_zero]; rfl
    · rw [if_neg h1, if_neg (by omega)]
      by_cases h2 : n < A
      · rw [if_pos h2, decide_eq_true (by omega), show (-(A : Int) + (n : Int)).natAbs = A - n by omega]
      · rw [if_neg h2, decide_eq_false (by omega), show (-(A : Int) + (n : Int)).natAbs = n - A by omega]
  · simp only [if_true, Bool.and_true]
    rw [show (-(A : Int) + -(n : Int)).natAbs = A + n by omega]
    by_cases h : -(A : Int) + -(n : Int) = 0
    · rw [if_pos h]
    · rw [if_neg h, decide_eq_true (by omega)]
/-! ### Products -/
def mulT (x y : Nat) : Nat := (double.mul x y).getD nanW
theorem mul_fin {x y m n : Nat} {s t : Bool} {i j : Int} (hx : double.read x = .number s m i) (hy : double.read y = .number t n j) : mulT x y = double.nearest (s ^^ t) (m * n) (i + j) := by
  unfold mulT Format.mul
  rw [hx, hy]
  rfl
theorem product_comm (p q : Datum) : p.product q = q.product p := by
  cases p with
  | nan => cases q <;> rfl
  | infinity s =>
    cases q with
    | nan => rfl
    | infinity t => unfold Datum.product; simp only; rw [Bool.xor_comm]
    | number t n j => rfl
  | number s m i =>
    cases q with
    | nan => rfl
    | infinity t => rfl
    | number t n j => unfold Datum.product; simp only; rw [Bool.xor_comm, Nat.mul_comm, Int.add_comm]
theorem mulT_comm (x y : Nat) : mulT x y = mulT y x := by
  unfold mulT Format.mul
  rw [product_comm]
/-! ### Quotients -/
def divT (x y : Nat) : Nat := (double.div x y).getD nanW
/-- A quotient's floor, and a place below it for what is left. -/
def quo (m n u : Nat) : Nat := 2 * (m * 2 ^ u / n) + (decide (m * 2 ^ u % n ≠ 0)).toNat
theorem quo_more (b : Bool) (m n u d : Nat) (E : Int) (hn : n ≠ 0) (hm : m ≠ 0) (hb : 9007199254740992 ≤ m * 2 ^ u / n) : double.nearest b (quo m n (u + d)) (E - (u + d : Nat) - 1) = double.nearest b (quo m n u) (E - u - 1) := by
  have hp : 0 < 2 ^ d := Nat.pow_pos (by omega)
  have e0 : m * 2 ^ (u + d) = m * 2 ^ u * 2 ^ d := by rw [Nat.pow_add, Nat.mul_assoc]
  unfold quo
  rw [e0]
  generalize m * 2 ^ u = A at *
  have hA := Nat.div_add_mod A n
  have hr := Nat.mod_lt A (show 0 < n by omega)
  generalize A / n = X at *
  generalize A % n = r at *
  have e1 : A * 2 ^ d = n * (X * 2 ^ d) + r * 2 ^ d := by rw [← hA, Nat.add_mul, Nat.mul_assoc]
  have e2 : A * 2 ^ d / n = X * 2 ^ d + r * 2 ^ d / n := by rw [e1, Nat.mul_add_div (by omega)]
  have e3 : A * 2 ^ d % n = r * 2 ^ d % n := by rw [e1, Nat.mul_add_mod]
  rw [e2, e3]
  by_cases h0 : r = 0
  · subst h0
    rw [Nat.zero_mul, Nat.zero_div, Nat.zero_mod]
    simp only [ne_eq, not_true_eq_false, decide_false, Bool.toNat_false, Nat.add_zero]
    have := near_scale b (2 * X) d (E - u - 1) (by omega)
    rw [show E - u - 1 - (d : Int) = E - ((u + d : Nat) : Int) - 1 by omega, Nat.mul_assoc] at this
    exact this
  · have hlt : r * 2 ^ d / n < 2 ^ d := by
      refine Nat.div_lt_of_lt_mul ?_
      exact Nat.mul_lt_mul_of_pos_right hr hp
    have ht0 : 2 * (r * 2 ^ d / n) + (decide (r * 2 ^ d % n ≠ 0)).toNat ≠ 0 := by
      by_cases h : r * 2 ^ d % n = 0
      · have h1 := Nat.div_add_mod (r * 2 ^ d) n
        have h2 : 0 < r * 2 ^ d := Nat.mul_pos (by omega) hp
        have h3 : r * 2 ^ d / n ≠ 0 := by
          intro h3; rw [h3, h] at h1; omega
        omega
      · rw [decide_eq_true h]; simp
    have ht1 : 2 * (r * 2 ^ d / n) + (decide (r * 2 ^ d % n ≠ 0)).toNat < 2 ^ (d + 1) := by
      have := Bool.toNat_le (decide (r * 2 ^ d % n ≠ 0))
      rw [Nat.pow_succ]
      omega
    have := near_sticky b X (d + 1) _ (E - u) hb ht1 ht0
    rw [show E - (u : Int) - ((d + 1 : Nat) : Int) = E - ((u + d : Nat) : Int) - 1 by omega] at this
    rw [decide_eq_true h0, Bool.toNat_true, ← this]
    congr 1
    rw [Nat.pow_succ, Nat.mul_add, Nat.mul_comm (2 ^ d) 2, Nat.mul_left_comm X 2]
    omega
/-- Two ways to round a quotient are one. -/
theorem quo_any (b : Bool) (m n u v : Nat) (E : Int) (hn : n ≠ 0) (hm : m ≠ 0) (hu : 9007199254740992 ≤ m * 2 ^ u / n) (hv : 9007199254740992 ≤ m * 2 ^ v / n) : double.nearest b (quo m n u) (E - u - 1) = double.nearest b (quo m n v) (E - v - 1) := by
  rcases Nat.le_total u v with h | h
  · obtain ⟨d, rfl⟩ := Nat.le.dest h
    exact (quo_more b m n u d E hn hm hu).symm
  · obtain ⟨d, rfl⟩ := Nat.le.dest h
    exact quo_more b m n v d E hn hm hv
theorem quo_big (m n : Nat) (hn : n ≠ 0) (hm : m ≠ 0) : 9007199254740992 ≤ m * 2 ^ (54 + n.log2 - m.log2) / n := by
  have h1 := log_le hm
  have h2 := lt_log n
  rw [Nat.le_div_iff_mul_le (by omega)]
  have h3 : 2 ^ (m.log2 + (54 + n.log2 - m.log2)) ≤ m * 2 ^ (54 + n.log2 - m.log2) := by
    rw [Nat.pow_add]; exact Nat.mul_le_mul_right _ h1
  have h4 : (2 : Nat) ^ (53 + (n.log2 + 1)) ≤ 2 ^ (m.log2 + (54 + n.log2 - m.log2)) := Nat.pow_le_pow_right (by omega) (by omega)
  have h5 : (2 : Nat) ^ (53 + (n.log2 + 1)) = 9007199254740992 * 2 ^ (n.log2 + 1) := by rw [Nat.pow_add]
  have h6 : 9007199254740992 * n ≤ 9007199254740992 * 2 ^ (n.log2 + 1) := Nat.mul_le_mul_left _ (by omega)
  omega
theorem div_fin {x y m n : Nat} {s t : Bool} {i j : Int} (hx : double.read x = .number s m i) (hy : double.read y = .number t n j) (hn : n ≠ 0) (hm : m ≠ 0) (u : Nat) (hu : 9007199254740992 ≤ m * 2 ^ u / n) : divT x y = double.nearest (s ^^ t) (quo m n u) (i - j - u - 1) := by
  unfold divT Format.div
  rw [hx, hy]
  unfold Datum.quotient
  simp only [if_neg hn, Option.map_some, Option.getD_some, Nat.shiftLeft_eq]
  rw [← quo_any (s ^^ t) m n (54 + n.log2 - m.log2) u (i - j) hn hm (quo_big m n hn hm) hu]
  unfold Format.write quo
  simp only
  have e : double.fractionBits + 2 = 54 := rfl
  rw [e]
  congr 1
  rw [show (m * 2 ^ (54 + n.log2 - m.log2) % n != 0) = decide (m * 2 ^ (54 + n.log2 - m.log2) % n ≠ 0) by rw [Bool.eq_iff_iff]; simp]
theorem div_zero {x y n : Nat} {s t : Bool} {i j : Int} (hx : double.read x = .number s 0 i) (hy : double.read y = .number t n j) (hn : n ≠ 0) : divT x y = enc (s ^^ t) 0 := by
  unfold divT Format.div
  rw [hx, hy]
  unfold Datum.quotient
  simp only [if_neg hn, Option.map_some, Option.getD_some, Nat.zero_shiftLeft, Nat.zero_div, Nat.zero_mod]
  unfold Format.write
  simp only
  exact near_zero _ _
/-! ### Roots -/
def sqrtT (x : Nat) : Nat := (double.sqrt x).getD nanW
theorem rootFrom_eq (n : Nat) : ∀ (todo root : Nat), root * root ≤ n → n < (root + 2 ^ todo) * (root + 2 ^ todo) → (Datum.rootFrom n todo root) * (Datum.rootFrom n todo root) ≤ n ∧ n < (Datum.rootFrom n todo root + 1) * (Datum.rootFrom n todo root + 1) := by
  intro todo
  induction todo with
  | zero => intro root h1 h2; exact ⟨h1, h2⟩
  | succ k ih =>
    intro root h1 h2
    unfold Datum.rootFrom
    simp only [Nat.one_shiftLeft]
    by_cases h : (root + 2 ^ k) * (root + 2 ^ k) ≤ n
    · rw [if_pos h]
      refine ih _ h ?_
      rw [Nat.pow_succ] at h2
      rw [show root + 2 ^ k + 2 ^ k = root + 2 ^ k * 2 by omega]
      exact h2
    · rw [if_neg h]
      exact ih _ h1 (by omega)
/-- Whole roots. -/
def isRoot (n w : Nat) : Prop := w * w ≤ n ∧ n < (w + 1) * (w + 1)
theorem isRoot_unique {n v w : Nat} (hv : isRoot n v) (hw : isRoot n w) : v = w := by
  rcases Nat.lt_trichotomy v w with h | h | h
  · have : (v + 1) * (v + 1) ≤ w * w := Nat.mul_le_mul h h
    have := hv.2; have := hw.1; omega
  · exact h
  · have : (w + 1) * (w + 1) ≤ v * v := Nat.mul_le_mul h h
    have := hw.2; have := hv.1; omega
theorem root_of (n : Nat) : isRoot n (Datum.rootFrom n (n.log2 / 2 + 1) 0) := by
  refine rootFrom_eq n _ 0 (by omega) ?_
  have h := lt_log n
  rw [Nat.zero_add, ← Nat.pow_add]
  exact Nat.lt_of_lt_of_le h (Nat.pow_le_pow_right (by omega) (by omega))
def rt (n w : Nat) : Nat := 2 * w + (decide (w * w ≠ n)).toNat
theorem root_more (n w z d : Nat) (E : Int) (hw : isRoot n w) (hz : isRoot (n * 2 ^ (2 * d)) z) (hb : 9007199254740992 ≤ w) : double.nearest false (rt (n * 2 ^ (2 * d)) z) (E - d - 1) = double.nearest false (rt n w) (E - 1) := by
  have hp : 0 < 2 ^ d := Nat.pow_pos (by omega)
  have e4 : (2 : Nat) ^ (2 * d) = 2 ^ d * 2 ^ d := by rw [← Nat.pow_add]; congr 1; omega
  have hz1 : w * 2 ^ d ≤ z := by
    rcases Nat.lt_or_ge z (w * 2 ^ d) with h | h
    · exfalso
      have h1 : (z + 1) * (z + 1) ≤ w * 2 ^ d * (w * 2 ^ d) := Nat.mul_le_mul h h
      have h2 := hz.2
      rw [e4] at h2
      have h3 : w * 2 ^ d * (w * 2 ^ d) = w * w * (2 ^ d * 2 ^ d) := Nat.mul_mul_mul_comm ..
      have h4 : w * w * (2 ^ d * 2 ^ d) ≤ n * (2 ^ d * 2 ^ d) := Nat.mul_le_mul_right _ hw.1
      omega
    · exact h
  have hz2 : z < (w + 1) * 2 ^ d := by
    rcases Nat.lt_or_ge z ((w + 1) * 2 ^ d) with h | h
    · exact h
    · exfalso
      have h1 : (w + 1) * 2 ^ d * ((w + 1) * 2 ^ d) ≤ z * z := Nat.mul_le_mul h h
      have h2 := hz.1
      rw [e4] at h2
      have h3 : (w + 1) * 2 ^ d * ((w + 1) * 2 ^ d) = (w + 1) * (w + 1) * (2 ^ d * 2 ^ d) := Nat.mul_mul_mul_comm ..
      have h4 : (n + 1) * (2 ^ d * 2 ^ d) ≤ (w + 1) * (w + 1) * (2 ^ d * 2 ^ d) := Nat.mul_le_mul_right _ hw.2
      have h5 : 0 < 2 ^ d * 2 ^ d := Nat.mul_pos hp hp
      rw [Nat.add_mul, Nat.one_mul] at h4
      omega
  unfold rt
  by_cases h0 : w * w = n
  · have hzz : z = w * 2 ^ d := by
      refine isRoot_unique hz ⟨?_, ?_⟩
      · rw [e4, ← h0, Nat.mul_mul_mul_comm]; exact Nat.le_refl _
      · have h3 : w * 2 ^ d * (w * 2 ^ d) = n * 2 ^ (2 * d) := by rw [Nat.mul_mul_mul_comm, h0, e4]
        rw [Nat.add_mul, Nat.mul_add, h3]; omega
    have h3 : z * z = n * 2 ^ (2 * d) := by rw [hzz, Nat.mul_mul_mul_comm, h0, e4]
    rw [decide_eq_false (by simp [h3]), decide_eq_false (by simp [h0]), hzz]
    simp only [Bool.toNat_false, Nat.add_zero]
    have := near_scale false (2 * w) d (E - 1) (by omega)
    rw [Nat.mul_assoc, show E - 1 - (d : Int) = E - d - 1 by omega] at this
    exact this
  · rw [decide_eq_true (p := w * w ≠ n) h0, Bool.toNat_true]
    rw [Nat.add_mul, Nat.one_mul] at hz2
    obtain ⟨c, rfl⟩ : ∃ c, z = w * 2 ^ d + c := ⟨z - w * 2 ^ d, by omega⟩
    have ht0 : 2 * c + (decide ((w * 2 ^ d + c) * (w * 2 ^ d + c) ≠ n * 2 ^ (2 * d))).toNat ≠ 0 := by
      by_cases hc : c = 0
      · subst hc
        have : (w * 2 ^ d + 0) * (w * 2 ^ d + 0) ≠ n * 2 ^ (2 * d) := by
          rw [Nat.add_zero, Nat.mul_mul_mul_comm, e4]
          intro h
          exact h0 (Nat.eq_of_mul_eq_mul_right (Nat.mul_pos hp hp) h)
        rw [decide_eq_true this]; simp
      · omega
    have ht1 : 2 * c + (decide ((w * 2 ^ d + c) * (w * 2 ^ d + c) ≠ n * 2 ^ (2 * d))).toNat < 2 ^ (d + 1) := by
      have := Bool.toNat_le (decide ((w * 2 ^ d + c) * (w * 2 ^ d + c) ≠ n * 2 ^ (2 * d)))
      rw [Nat.pow_succ]; omega
    have := near_sticky false w (d + 1) _ E hb ht1 ht0
    rw [show E - ((d + 1 : Nat) : Int) = E - d - 1 by omega] at this
    rw [← this]
    congr 1
    rw [Nat.pow_succ, Nat.mul_add, Nat.mul_comm (2 ^ d) 2, Nat.mul_left_comm w 2]
    omega
end Go.Proofs.Ytidhjpdcbmbicaa.CG
