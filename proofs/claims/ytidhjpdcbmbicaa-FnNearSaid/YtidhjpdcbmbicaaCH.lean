/- Order, roots, rests and whole numbers of 64 bits, by plain whole numbers. No condition beyond those typed. -/
import Derived.Test.YtidhjpdcbmbicaaCG
namespace Go.Proofs.Ytidhjpdcbmbicaa.CH
open Ieee Go.Proofs.Ytidhjpdcbmbicaa.CR Go.Proofs.Ytidhjpdcbmbicaa.CF Go.Proofs.Ytidhjpdcbmbicaa.CG

theorem root_any (m : Nat) (i : Int) (u v w z : Nat) (hw : isRoot (m * 2 ^ u) w) (hz : isRoot (m * 2 ^ v) z) (hu : (i - u) % 2 = 0) (hv : (i - v) % 2 = 0) (hbw : 9007199254740992 ≤ w) (hbz : 9007199254740992 ≤ z) :
    double.nearest false (rt (m * 2 ^ u) w) ((i - u) / 2 - 1) = double.nearest false (rt (m * 2 ^ v) z) ((i - v) / 2 - 1) := by
  rcases Nat.le_total u v with h | h
  · obtain ⟨d, rfl⟩ : ∃ d, v = u + 2 * d := ⟨(v - u) / 2, by omega⟩
    rw [Nat.pow_add, ← Nat.mul_assoc] at hz ⊢
    rw [show (i - ((u + 2 * d : Nat) : Int)) / 2 = (i - u) / 2 - d by omega]
    exact (root_more _ w z d _ hw hz hbw).symm
  · obtain ⟨d, rfl⟩ : ∃ d, u = v + 2 * d := ⟨(u - v) / 2, by omega⟩
    rw [Nat.pow_add, ← Nat.mul_assoc] at hw ⊢
    rw [show (i - ((v + 2 * d : Nat) : Int)) / 2 = (i - v) / 2 - d by omega]
    exact root_more _ z w d _ hz hw hbz
theorem sqrt_fin {x m : Nat} {i : Int} (hx : double.read x = .number false m i) (hm : m ≠ 0) (u w : Nat) (hw : isRoot (m * 2 ^ u) w) (hu : (i - u) % 2 = 0) (hbw : 9007199254740992 ≤ w) :
    sqrtT x = double.nearest false (rt (m * 2 ^ u) w) ((i - u) / 2 - 1) := by
  unfold sqrtT Format.sqrt
  rw [hx]
  unfold Datum.root
  simp only [if_neg hm, Option.map_some, Option.getD_some, Nat.shiftLeft_eq, Bool.false_eq_true, if_false]
  have e : 2 * (double.fractionBits + 2) - m.log2 = 108 - m.log2 := rfl
  rw [e]
  generalize hu2 : 108 - m.log2 + ((i - (108 - m.log2 : Nat)) % 2).toNat = u2
  have hev : (i - u2) % 2 = 0 := by omega
  have hr := root_of (m * 2 ^ u2)
  have hb2 : 9007199254740992 ≤ Datum.rootFrom (m * 2 ^ u2) ((m * 2 ^ u2).log2 / 2 + 1) 0 := by
    have h1 := log_le hm
    have h3 : 2 ^ (m.log2 + u2) ≤ m * 2 ^ u2 := by rw [Nat.pow_add]; exact Nat.mul_le_mul_right _ h1
    have h4 : (2 : Nat) ^ 106 ≤ 2 ^ (m.log2 + u2) := Nat.pow_le_pow_right (by omega) (by omega)
    have h5 := hr.2
    generalize Datum.rootFrom (m * 2 ^ u2) ((m * 2 ^ u2).log2 / 2 + 1) 0 = z at *
    rcases Nat.lt_or_ge z 9007199254740992 with h | h
    · exfalso
      have h6 : (z + 1) * (z + 1) ≤ 9007199254740992 * 9007199254740992 := Nat.mul_le_mul h h
      have h7 : (9007199254740992 : Nat) * 9007199254740992 = 2 ^ 106 := by decide
      omega
    · exact h
  rw [← root_any m i u2 u _ w hr hw hev hu hb2 hbw]
  unfold Format.write rt
  simp only
  congr 1
  generalize Datum.rootFrom (m * 2 ^ u2) ((m * 2 ^ u2).log2 / 2 + 1) 0 = z
  rw [show (z * z != m * 2 ^ u2) = decide (z * z ≠ m * 2 ^ u2) by rw [Bool.eq_iff_iff]; simp]
/-! ### Order -/
/-- A number's place in the order. -/
def keyI (x : Nat) : Int := if 9223372036854775808 ≤ x then -((x - 9223372036854775808 : Nat) : Int) else (x : Int)
/-- A magnitude in least units. -/
def magV (m : Nat) (e : Int) : Nat := m * 2 ^ (e + 1074).toNat
theorem mag_lt {m n : Nat} {i j : Int} (hi : -1074 ≤ i) (hj : -1074 ≤ j) (hm : m < 9007199254740992) (hn : n < 9007199254740992) (hmi : i ≠ -1074 → 4503599627370496 ≤ m) (hnj : j ≠ -1074 → 4503599627370496 ≤ n)
    (h : (i + 1074).toNat * 4503599627370496 + m < (j + 1074).toNat * 4503599627370496 + n) : magV m i < magV n j := by
  unfold magV
  rcases Int.lt_trichotomy i j with h1 | h1 | h1
  · have hn2 := hnj (by omega)
    have hp : 0 < 2 ^ (i + 1074).toNat := Nat.pow_pos (by omega)
    have q1 : m * 2 ^ (i + 1074).toNat < 9007199254740992 * 2 ^ (i + 1074).toNat := Nat.mul_lt_mul_of_pos_right hm hp
    have q2 : (2 : Nat) ^ ((i + 1074).toNat + 1) ≤ 2 ^ (j + 1074).toNat := Nat.pow_le_pow_right (by omega) (by omega)
    have q3 : 4503599627370496 * 2 ^ ((i + 1074).toNat + 1) ≤ n * 2 ^ (j + 1074).toNat := Nat.mul_le_mul hn2 q2
    rw [Nat.pow_succ] at q3
    omega
  · subst h1
    exact Nat.mul_lt_mul_of_pos_right (by omega) (Nat.pow_pos (by omega))
  · have := hmi (by omega)
    omega
theorem mag_eq {m n : Nat} {i j : Int} (hi : -1074 ≤ i) (hj : -1074 ≤ j) (hm : m < 9007199254740992) (hn : n < 9007199254740992) (hmi : i ≠ -1074 → 4503599627370496 ≤ m) (hnj : j ≠ -1074 → 4503599627370496 ≤ n)
    (h : (i + 1074).toNat * 4503599627370496 + m = (j + 1074).toNat * 4503599627370496 + n) : m = n ∧ i = j := by
  rcases Int.lt_trichotomy i j with h1 | h1 | h1
  · have := hnj (by omega); omega
  · omega
  · have := hmi (by omega); omega
theorem cmp_scale (a b : Int) (p : Nat) (hp : 0 < p) : compare (a * p) (b * p) = compare a b := by
  have hp' : (0 : Int) < p := by omega
  rcases Int.lt_trichotomy a b with h | h | h
  · rw [Int.compare_eq_lt.2 h, Int.compare_eq_lt.2 (Int.mul_lt_mul_of_pos_right h hp')]
  · subst h; rw [Int.compare_eq_eq.2 rfl, Int.compare_eq_eq.2 rfl]
  · rw [Int.compare_eq_gt.2 h, Int.compare_eq_gt.2 (Int.mul_lt_mul_of_pos_right h hp')]
def sg (b : Bool) (v : Nat) : Int := if b then -(v : Int) else (v : Int)
theorem key_enc (b : Bool) (r : Nat) (hr : r < 9223372036854775808) : keyI (enc b r) = sg b r := by
  unfold keyI enc sg
  cases b
  · simp only [Bool.false_eq_true, if_false]; rw [if_neg (by omega)]
  · simp only [if_true]; rw [if_pos (by omega), Nat.add_sub_cancel_left]
theorem sg_cmp (s t : Bool) (a b c d : Nat) (h1 : a < b ↔ c < d) (h2 : a = b ↔ c = d) (h3 : a = 0 ↔ c = 0) (h4 : b = 0 ↔ d = 0) : compare (sg s a) (sg t b) = compare (sg s c) (sg t d) := by
  have key : ∀ x y u v : Int, (x < y ↔ u < v) → (x = y ↔ u = v) → compare x y = compare u v := by
    intro x y u v h1 h2
    rcases Int.lt_trichotomy x y with h | h | h
    · rw [Int.compare_eq_lt.2 h, Int.compare_eq_lt.2 (h1.1 h)]
    · rw [Int.compare_eq_eq.2 h, Int.compare_eq_eq.2 (h2.1 h)]
    · have h5 : ¬ u < v := fun h6 => by have := h1.2 h6; omega
      have h6 : ¬ u = v := fun h6 => by have := h2.2 h6; omega
      rw [Int.compare_eq_gt.2 h, Int.compare_eq_gt.2 (by omega)]
  apply key <;> unfold sg <;> cases s <;> cases t <;> simp <;> omega
theorem order_num {x y m n : Nat} {s t : Bool} {i j : Int} (hxl : x < 18446744073709551616) (hyl : y < 18446744073709551616) (hx : double.read x = .number s m i) (hy : double.read y = .number t n j) : double.order x y = some (compare (keyI x) (keyI y)) := by
  obtain ⟨_, a1, a2, a3, a4, a5, a6⟩ := read_num hxl hx
  obtain ⟨_, b1, b2, b3, b4, b5, b6⟩ := read_num hyl hy
  unfold Format.order
  rw [hx, hy]
  unfold Datum.order
  simp only
  congr 1
  have hk : ∀ (b : Bool) (m : Nat) (e : Int), min i j ≤ e → signed b m (e - min i j).toNat * ((2 ^ (min i j + 1074).toNat : Nat) : Int) = sg b (magV m e) := by
    intro b m e he
    rw [signed_eq]
    unfold sg magV
    have : m * 2 ^ (e + 1074).toNat = m * 2 ^ (e - min i j).toNat * 2 ^ (min i j + 1074).toNat := by
      rw [Nat.mul_assoc, ← Nat.pow_add]; congr 2; omega
    rw [this]
    cases b
    · simp
    · simp [Int.neg_mul]
  rw [← cmp_scale _ _ (2 ^ (min i j + 1074).toNat) (Nat.pow_pos (by omega)), hk s m i (by omega), hk t n j (by omega), a5, b5, key_enc _ _ (by omega), key_enc _ _ (by omega)]
  have pi : 0 < 2 ^ (i + 1074).toNat := Nat.pow_pos (by omega)
  have pj : 0 < 2 ^ (j + 1074).toNat := Nat.pow_pos (by omega)
  have l1 := mag_lt (m := m) (n := n) (i := i) (j := j) a2 b2 a1 b1 a4 b4
  have l2 := mag_lt (m := n) (n := m) (i := j) (j := i) b2 a2 b1 a1 b4 a4
  have l3 := mag_eq (m := m) (n := n) (i := i) (j := j) a2 b2 a1 b1 a4 b4
  have z1 : magV m i = 0 ↔ m = 0 := by unfold magV; rw [Nat.mul_eq_zero]; omega
  have z2 : magV n j = 0 ↔ n = 0 := by unfold magV; rw [Nat.mul_eq_zero]; omega
  have q3 : (i + 1074).toNat * 4503599627370496 + m = (j + 1074).toNat * 4503599627370496 + n → magV m i = magV n j := by
    intro h
    obtain ⟨h1, h2⟩ := l3 h
    subst h1 h2
    rfl
  clear a5 b5 hk hx hy hxl hyl l3 pi pj
  generalize magV m i = A at *
  generalize magV n j = B at *
  refine sg_cmp s t _ _ _ _ ?_ ?_ ?_ ?_
  · constructor
    · intro h
      rcases Nat.lt_trichotomy ((i + 1074).toNat * 4503599627370496 + m) ((j + 1074).toNat * 4503599627370496 + n) with h1 | h1 | h1
      · exact h1
      · have h2 := q3 h1
        exact absurd h (by rw [h2]; exact Nat.lt_irrefl _)
      · exact absurd h (Nat.lt_asymm (l2 h1))
    · exact l1
  · constructor
    · intro h
      rcases Nat.lt_trichotomy ((i + 1074).toNat * 4503599627370496 + m) ((j + 1074).toNat * 4503599627370496 + n) with h1 | h1 | h1
      · exact absurd h (Nat.ne_of_lt (l1 h1))
      · exact h1
      · exact absurd h.symm (Nat.ne_of_lt (l2 h1))
    · exact q3
  · rw [z1]; omega
  · rw [z2]; omega
def nanB (x : Nat) : Bool := decide (9218868437227405312 < x % 9223372036854775808)
theorem read_nan {x : Nat} (hx : x < 18446744073709551616) : (∃ s f, double.read x = .nan s f) ↔ nanB x = true := by
  unfold nanB
  rw [read_def x hx, decide_eq_true_iff]
  constructor
  · rintro ⟨s, f, h⟩
    split at h
    · cases h
    · split at h
      · cases h
      · split at h
        · cases h
        · omega
  · intro h
    rw [if_neg (by omega), if_neg (by omega), if_neg (by omega)]
    exact ⟨_, _, rfl⟩
theorem fin_key {y n : Nat} {t : Bool} {j : Int} (hyl : y < 18446744073709551616) (hy : double.read y = .number t n j) : -9218868437227405312 < keyI y ∧ keyI y < 9218868437227405312 := by
  obtain ⟨_, b1, b2, b3, b4, b5, b6⟩ := read_num hyl hy
  rw [b5, key_enc _ _ (by omega)]
  unfold sg
  cases t <;> simp <;> omega
theorem inf_key {x : Nat} {s : Bool} (hxl : x < 18446744073709551616) (hx : double.read x = .infinity s) : keyI x = sg s 9218868437227405312 := by
  rw [(read_inf hxl hx).2, key_enc _ _ (by omega)]
/-- How two numbers stand to each other. -/
theorem order_eq (x y : Nat) (hxl : x < 18446744073709551616) (hyl : y < 18446744073709551616) : double.order x y = if nanB x = true ∨ nanB y = true then none else some (compare (keyI x) (keyI y)) := by
  have hnx := read_nan hxl
  have hny := read_nan hyl
  cases hx : double.read x with
  | nan s f =>
    rw [if_pos (.inl (hnx.1 ⟨s, f, hx⟩))]
    unfold Format.order; rw [hx]; rfl
  | infinity s =>
    have n1 : nanB x = false := by
      cases h : nanB x
      · rfl
      · obtain ⟨_, _, h2⟩ := hnx.2 h; rw [hx] at h2; cases h2
    cases hy : double.read y with
    | nan t f =>
      rw [if_pos (.inr (hny.1 ⟨t, f, hy⟩))]
      unfold Format.order; rw [hx, hy]; rfl
    | infinity t =>
      have n2 : nanB y = false := by
        cases h : nanB y
        · rfl
        · obtain ⟨_, _, h2⟩ := hny.2 h; rw [hy] at h2; cases h2
      rw [if_neg (by simp [n1, n2]), inf_key hxl hx, inf_key hyl hy]
      unfold Format.order; rw [hx, hy]
      cases s <;> cases t <;> decide
    | number t n j =>
      have n2 : nanB y = false := by
        cases h : nanB y
        · rfl
        · obtain ⟨_, _, h2⟩ := hny.2 h; rw [hy] at h2; cases h2
      rw [if_neg (by simp [n1, n2]), inf_key hxl hx]
      have hk := fin_key hyl hy
      unfold Format.order; rw [hx, hy]
      cases s
      · rw [Int.compare_eq_gt.2 (by unfold sg; simp; omega)]; rfl
      · rw [Int.compare_eq_lt.2 (by unfold sg; simp; omega)]; rfl
  | number s m i =>
    have n1 : nanB x = false := by
      cases h : nanB x
      · rfl
      · obtain ⟨_, _, h2⟩ := hnx.2 h; rw [hx] at h2; cases h2
    cases hy : double.read y with
    | nan t f =>
      rw [if_pos (.inr (hny.1 ⟨t, f, hy⟩))]
      unfold Format.order; rw [hx, hy]; rfl
    | infinity t =>
      have n2 : nanB y = false := by
        cases h : nanB y
        · rfl
        · obtain ⟨_, _, h2⟩ := hny.2 h; rw [hy] at h2; cases h2
      rw [if_neg (by simp [n1, n2]), inf_key hyl hy]
      have hk := fin_key hxl hx
      unfold Format.order; rw [hx, hy]
      cases t
      · rw [Int.compare_eq_lt.2 (by unfold sg; simp; omega)]; rfl
      · rw [Int.compare_eq_gt.2 (by unfold sg; simp; omega)]; rfl
    | number t n j =>
      have n2 : nanB y = false := by
        cases h : nanB y
        · rfl
        · obtain ⟨_, _, h2⟩ := hny.2 h; rw [hy] at h2; cases h2
      rw [if_neg (by simp [n1, n2])]
      exact order_num hxl hyl hx hy
/-! ### What is written is no NaN -/
theorem enc_notnan (b : Bool) (r : Nat) (hr : r ≤ 9218868437227405312) : nanB (enc b r) = false ∧ enc b r < 18446744073709551616 := by
  unfold nanB enc
  cases b
  · simp only [Bool.false_eq_true, if_false]; exact ⟨decide_eq_false (by omega), by omega⟩
  · simp only [if_true]; exact ⟨decide_eq_false (by omega), by omega⟩
theorem near_notnan (b : Bool) (m : Nat) (e : Int) : nanB (double.nearest b m e) = false ∧ double.nearest b m e < 18446744073709551616 := by
  by_cases h : m = 0
  · subst h; rw [near_zero]; exact enc_notnan b 0 (by omega)
  · rw [near_eq b m e h]; unfold packN; exact enc_notnan b _ (Nat.min_le_right ..)
theorem write_notnan (d : Datum) (h : d.isNaN = false) : nanB (double.write d) = false ∧ double.write d < 18446744073709551616 := by
  cases d with
  | nan => cases h
  | infinity b => rw [write_inf]; exact enc_notnan b _ (Nat.le_refl _)
  | number b m e => exact near_notnan b m e
theorem map_some {o : Option Datum} {r : Nat} (h : o.map double.write = some r) (hn : ∀ d, o = some d → d.isNaN = false) : nanB r = false ∧ r < 18446744073709551616 := by
  cases o with
  | none => cases h
  | some d => obtain rfl : double.write d = r := by simpa using h
              exact write_notnan d (hn d rfl)
theorem sum_isNaN (p q d : Datum) (h : p.sum q = some d) : d.isNaN = false := by
  cases p <;> cases q <;> simp only [Datum.sum] at h <;> first | cases h <;> rfl | (split at h <;> cases h <;> rfl)
theorem product_isNaN (p q d : Datum) (h : p.product q = some d) : d.isNaN = false := by
  cases p <;> cases q <;> simp only [Datum.product] at h <;> first | cases h <;> rfl | (split at h <;> cases h <;> rfl)
theorem quotient_isNaN (k : Nat) (p q d : Datum) (h : p.quotient k q = some d) : d.isNaN = false := by
  cases p <;> cases q <;> simp only [Datum.quotient] at h <;> first | cases h <;> rfl | (split at h <;> first | (split at h <;> cases h <;> rfl) | (cases h <;> rfl))
theorem root_isNaN (k : Nat) (p d : Datum) (h : p.root k = some d) : d.isNaN = false := by
  cases p with
  | nan => cases h
  | infinity s => cases s <;> cases h <;> rfl
  | number s m e =>
    simp only [Datum.root] at h
    split at h
    · cases h; rfl
    · split at h
      · cases h
      · cases h; rfl
theorem add_some {x y r : Nat} (h : double.add x y = some r) : nanB r = false ∧ r < 18446744073709551616 := map_some h (fun d hd => sum_isNaN _ _ d hd)
theorem mul_some {x y r : Nat} (h : double.mul x y = some r) : nanB r = false ∧ r < 18446744073709551616 := map_some h (fun d hd => product_isNaN _ _ d hd)
theorem div_some {x y r : Nat} (h : double.div x y = some r) : nanB r = false ∧ r < 18446744073709551616 := map_some h (fun d hd => quotient_isNaN _ _ _ d hd)
theorem sqrt_some {x r : Nat} (h : double.sqrt x = some r) : nanB r = false ∧ r < 18446744073709551616 := map_some h (fun d hd => root_isNaN _ _ d hd)
theorem sub_some {x y r : Nat} (h : double.sub x y = some r) : nanB r = false ∧ r < 18446744073709551616 := map_some h (fun d hd => sum_isNaN _ _ d hd)
end Go.Proofs.Ytidhjpdcbmbicaa.CH
