/- The quotients that are nearest to a word: those between the middles to its neighbours. Conditions: those typed. -/
import Derived.Test.YtkjpelgdppmbjaaGreatDoorSTZip
import Derived.Test.YtkjpelgdppmbjaaGreatDoorSTK4
import Derived.Test.YtkjpelgdppmbjaaGreatDoorSTK9
import Derived.Lib.ItoaMem
import Derived.Lib.OwnBridge
import Derived.Lib.AppendIntMem
import Derived.Test.YtkjpelgdppmbjaaGreatDoorSTK7
namespace Go.Proofs.YtkjpelgdppmbjaaGreatDoor.HA
open CQ SF

/-- A quotient rounds to k. -/
structure Mid (A B k : Nat) : Prop where mk ::
  lo : 2 * (k * B) ≤ 2 * A + B
  hi : 2 * A ≤ 2 * (k * B) + B
  olo : k % 2 = 1 → 2 * (k * B) < 2 * A + B
  ohi : k % 2 = 1 → 2 * A < 2 * (k * B) + B
theorem mid_round {A B : Nat} (hB : 0 < B) : Mid A B (rneQ A B) := by
  have h1 := Nat.div_add_mod A B
  have h2 := Nat.mod_lt A hB
  unfold rneQ
  rw [Nat.mul_comm] at h1
  generalize A / B = q at *
  generalize A % B = r at *
  have e : (q + 1) * B = q * B + B := by rw [Nat.add_mul, Nat.one_mul]
  generalize hP : q * B = P at *
  split
  · rename_i h
    exact ⟨by rw [e]; omega, by rw [e]; omega, by rw [e]; omega, by rw [e]; omega⟩
  · rename_i h
    rw [Nat.add_zero]
    exact ⟨by rw [hP]; omega, by rw [hP]; omega, by rw [hP]; omega, by rw [hP]; omega⟩
theorem mid_one {A B k l : Nat} (hB : 0 < B) (hk : Mid A B k) (hl : Mid A B l) : k = l := by
  have key : ∀ {k l : Nat}, Mid A B k → Mid A B l → k < l → False := by
    intro k l hk hl h
    have h1 : (k + 1) * B ≤ l * B := Nat.mul_le_mul_right _ h
    rw [Nat.add_mul, Nat.one_mul] at h1
    rcases Nat.lt_or_ge (k + 1) l with h2 | h2
    · have h3 : (k + 2) * B ≤ l * B := Nat.mul_le_mul_right _ h2
      rw [Nat.add_mul] at h3
      have := hk.hi
      have := hl.lo
      omega
    · obtain rfl : l = k + 1 := by omega
      have := hk.hi
      have := hl.lo
      have := hk.ohi
      have := hl.olo
      rw [Nat.add_mul, Nat.one_mul] at *
      omega
  rcases Nat.lt_trichotomy k l with h | h | h
  · exact (key hk hl h).elim
  · exact h
  · exact (key hl hk h).elim
theorem round_iff {A B k : Nat} (hB : 0 < B) : rneQ A B = k ↔ Mid A B k :=
  ⟨fun h => h ▸ mid_round hB, fun h => mid_one hB (mid_round hB) h⟩
/-- A by C lies between the middles about M (below the least M of a binade the neighbour is nearer). -/
structure Zone (A C M j : Nat) : Prop where mk ::
  hi : 2 * A ≤ 2 * (M * C) + C
  ohi : M % 2 = 1 → 2 * A < 2 * (M * C) + C
  lo : ¬ (M = 4503599627370496 ∧ j ≠ 0) → 2 * (M * C) ≤ 2 * A + C
  olo : M % 2 = 1 → 2 * (M * C) < 2 * A + C
  low : M = 4503599627370496 ∧ j ≠ 0 → 4 * (M * C) ≤ 4 * A + C
theorem near_zone {A B M j : Nat} (hB : 0 < B) (hM : M < 9007199254740992) (hj : j ≠ 0 → 4503599627370496 ≤ M) (hx : j * 4503599627370496 + M < 9218868437227405312) :
    NearU A B (j * 4503599627370496 + M) ↔ Zone A (B * 2 ^ j) M j := by
  constructor
  · rintro ⟨i, h1, h2, h3⟩
    have hD : 0 < B * 2 ^ i := Nat.mul_pos hB (pow_pos i)
    have hR1 : rneQ A (B * 2 ^ i) ≤ 9007199254740992 := rneQ_le hD (Nat.le_of_lt h1)
    have hR2 : i ≠ 0 → 4503599627370496 ≤ rneQ A (B * 2 ^ i) := fun h => rneQ_ge hD (h2 h)
    have hm := mid_round (A := A) hD
    generalize hR : rneQ A (B * 2 ^ i) = R at *
    have h4 : i * 4503599627370496 + R = j * 4503599627370496 + M := by
      rcases Nat.le_total (i * 4503599627370496 + R) 9218868437227405312 with h | h
      · rw [Nat.min_eq_left h] at h3; exact h3.symm
      · rw [Nat.min_eq_right h] at h3; exact absurd h3 (Nat.ne_of_lt hx)
    rcases Nat.lt_trichotomy i j with h | h | h
    · obtain ⟨rfl, rfl, rfl⟩ : j = i + 1 ∧ M = 4503599627370496 ∧ R = 9007199254740992 := by have := hj (by omega); omega
      have e : B * 2 ^ (i + 1) = 2 * (B * 2 ^ i) := by rw [Nat.pow_succ]; ac_rfl
      rw [e]
      have := hm.lo
      generalize B * 2 ^ i = D at *
      exact ⟨by omega, by omega, by omega, by omega, by omega⟩
    · subst h
      obtain rfl : R = M := by omega
      have a1 := hm.lo
      have a2 := hm.hi
      have a3 := hm.olo
      have a4 := hm.ohi
      refine ⟨a2, a4, fun _ => a1, a3, ?_⟩
      rintro ⟨rfl, h⟩
      have := h2 h
      omega
    · have := hR2 (by omega); omega
  · rintro ⟨z1, z2, z3, z4, z5⟩
    have hC : 0 < B * 2 ^ j := Nat.mul_pos hB (pow_pos j)
    have hlt : A < 9007199254740992 * (B * 2 ^ j) := by
      have h1 : (M + 1) * (B * 2 ^ j) ≤ 9007199254740992 * (B * 2 ^ j) := Nat.mul_le_mul_right _ hM
      rw [Nat.add_mul, Nat.one_mul] at h1
      omega
    by_cases h : j ≠ 0 ∧ A < 4503599627370496 * (B * 2 ^ j)
    · obtain ⟨h0, h⟩ := h
      have hMe : M = 4503599627370496 := by
        rcases Nat.lt_or_ge 4503599627370496 M with h5 | h5
        · exfalso
          have h6 : (4503599627370496 + 1) * (B * 2 ^ j) ≤ M * (B * 2 ^ j) := Nat.mul_le_mul_right _ h5
          rw [Nat.add_mul, Nat.one_mul] at h6
          have := z3 (by omega)
          omega
        · have := hj h0; omega
      subst hMe
      have h7 := z5 ⟨rfl, h0⟩
      obtain ⟨i, rfl⟩ : ∃ i, j = i + 1 := ⟨j - 1, by omega⟩
      have e : B * 2 ^ (i + 1) = 2 * (B * 2 ^ i) := by rw [Nat.pow_succ]; ac_rfl
      rw [e] at h h7
      have hD : 0 < B * 2 ^ i := Nat.mul_pos hB (pow_pos i)
      have hR : rneQ A (B * 2 ^ i) = 9007199254740992 := (round_iff hD).2 ⟨by omega, by omega, by omega, by omega⟩
      refine ⟨i, by omega, fun _ => by omega, ?_⟩
      rw [hR, Nat.min_eq_left (by omega)]
      omega
    · have hR : rneQ A (B * 2 ^ j) = M := (round_iff hC).2 ⟨by
        by_cases h8 : M = 4503599627370496 ∧ j ≠ 0
        · obtain ⟨rfl, h0⟩ := h8
          have := Nat.le_of_not_lt fun h9 => h ⟨h0, h9⟩
          omega
        · exact z3 h8, z1, z4, z2⟩
      refine ⟨j, hlt, fun h0 => Nat.le_of_not_lt fun h9 => h ⟨h0, h9⟩, ?_⟩
      rw [hR, Nat.min_eq_left (by omega)]
end Go.Proofs.YtkjpelgdppmbjaaGreatDoor.HA
namespace Go.Proofs.YtkjpelgdppmbjaaGreatDoor.HB

/-- P K D: D times 10 to the K is read as the number, which is U times 10 to the f, just. -/
structure Read (P : Int → Nat → Prop) (U : Nat) (f : Int) : Prop where mk ::
  ten : ∀ K D, P (K + 1) D ↔ P K (10 * D)
  conv : ∀ K a b c, P K a → P K b → a ≤ c → c ≤ b → P K c
  self : P f U
  last : U % 10 ≠ 0
/-- The figures at a place k that are read as the number: those of a range that holds no two multiples of ten. -/
structure Grid (P : Int → Nat → Prop) (k : Int) (lo hi : Nat) : Prop where mk ::
  iff : ∀ D, P k D ↔ lo ≤ D ∧ D ≤ hi
  le : lo ≤ hi
  room : hi < lo + 10
  pos : 1 ≤ lo
variable {P : Int → Nat → Prop} {U : Nat} {f k : Int} {lo hi : Nat}
theorem Read.up (h : Read P U f) (K : Int) : ∀ (n D : Nat), P (K + n) D ↔ P K (10 ^ n * D) := by
  intro n
  induction n with
  | zero => intro D; rw [Nat.pow_zero, Nat.one_mul, show K + ((0 : Nat) : Int) = K by omega]
  | succ n ih =>
    intro D
    rw [show K + ((n + 1 : Nat) : Int) = K + n + 1 by omega, h.ten, ih, Nat.pow_succ, Nat.mul_assoc]
/-- The figures of the number itself at a place, cut off. -/
def low (U : Nat) (f K : Int) : Nat := U / 10 ^ (K - f).toNat
theorem Read.hit (h : Read P U f) {K : Int} (hK : f ≤ K) {D : Nat} (hD : P K D) : P K (low U f K) ∨ P K (low U f K + 1) := by
  obtain ⟨n, rfl⟩ : ∃ n : Nat, K = f + n := ⟨(K - f).toNat, by omega⟩
  have hn : (f + (n : Int) - f).toNat = n := by omega
  unfold low
  rw [hn]
  have hp : 0 < 10 ^ n := Nat.pow_pos (by omega)
  have h1 : 10 ^ n * (U / 10 ^ n) ≤ U := Nat.mul_div_le U _
  have h2 : U < 10 ^ n * (U / 10 ^ n + 1) := by
    have := Nat.div_add_mod U (10 ^ n)
    have := Nat.mod_lt U hp
    rw [Nat.mul_add, Nat.mul_one]
    omega
  have hf := (h.up f n D).1 hD
  rcases Nat.lt_or_ge (U / 10 ^ n) D with h3 | h3
  · right
    refine (h.up f n _).2 (h.conv f U _ _ h.self hf (Nat.le_of_lt h2) (Nat.mul_le_mul_left _ h3))
  · left
    exact (h.up f n _).2 (h.conv f _ U _ hf h.self (Nat.mul_le_mul_left _ h3) h1)
theorem Grid.ten_one (h : Read P U f) (g : Grid P k lo hi) {s t : Nat} (hs : P (k + 1) s) (ht : P (k + 1) t) : s = t := by
  have h1 := (g.iff _).1 ((h.ten k s).1 hs)
  have h2 := (g.iff _).1 ((h.ten k t).1 ht)
  have := g.room
  omega
theorem Read.far (h : Read P U f) {K : Int} (hK : k + 1 ≤ K) {D : Nat} (hD : P K D) : P (k + 1) (10 ^ (K - k - 1).toNat * D) := by
  refine (h.up (k + 1) (K - k - 1).toNat D).1 ?_
  rw [show k + 1 + (((K - k - 1).toNat : Nat) : Int) = K by omega]
  exact hD
theorem tail_off : ∀ (n t : Nat), t ≤ n → t ≠ 0 → ∃ q j, t = 10 ^ j * q ∧ q % 10 ≠ 0 := by
  intro n
  induction n with
  | zero => intro t h h0; omega
  | succ n ih =>
    intro t h h0
    by_cases h1 : t % 10 = 0
    · obtain ⟨q, j, h2, h3⟩ := ih (t / 10) (by omega) (by omega)
      exact ⟨q, j + 1, by rw [Nat.pow_succ, Nat.mul_comm (10 ^ j) 10, Nat.mul_assoc, ← h2]; omega, h3⟩
    · exact ⟨t, 0, by rw [Nat.pow_zero, Nat.one_mul], h1⟩
theorem ten_dvd {q n D : Nat} (hq : q % 10 ≠ 0) (h : q = 10 ^ (n + 1) * D) : False := by
  rw [Nat.pow_succ, Nat.mul_comm (10 ^ n) 10, Nat.mul_assoc] at h
  omega
/-- A range that holds a multiple of ten: what is read as the number at places above. -/
theorem Grid.one (h : Read P U f) (g : Grid P k lo hi) {q j : Nat} (hq : q % 10 ≠ 0) (ht : P (k + 1) (10 ^ j * q)) :
    (∀ K D, k + 1 + (j : Int) < K → ¬ P K D) ∧ (∀ D, P (k + 1 + j) D ↔ D = q) ∧ f ≤ k + 1 + j ∧ (f = k + 1 + j → U = q) := by
  have hp : 0 < 10 ^ j := Nat.pow_pos (by omega)
  have key : ∀ K D, k + 1 + (j : Int) ≤ K → P K D → q = 10 ^ (K - k - 1 - j).toNat * D := by
    intro K D hK hD
    have h1 := g.ten_one h ht (h.far (by omega) hD)
    obtain ⟨m, rfl⟩ : ∃ m : Nat, K = k + 1 + j + m := ⟨(K - k - 1 - j).toNat, by omega⟩
    rw [show (k + 1 + (j : Int) + m - k - 1).toNat = j + m by omega, Nat.pow_add, Nat.mul_assoc] at h1
    rw [show (k + 1 + (j : Int) + m - k - 1 - j).toNat = m by omega]
    exact Nat.eq_of_mul_eq_mul_left hp h1
  have hself : P (k + 1 + j) q := (h.up (k + 1) j q).2 ht
  have A1 : ∀ K D, k + 1 + (j : Int) < K → ¬ P K D := by
    intro K D hK hD
    have h1 := key K D (by omega) hD
    rw [show (K - k - 1 - (j : Int)).toNat = (K - k - 1 - j - 1).toNat + 1 by omega] at h1
    exact ten_dvd hq h1
  have A2 : ∀ D, P (k + 1 + j) D ↔ D = q := by
    intro D
    constructor
    · intro hD
      have h1 := key _ D (Int.le_refl _) hD
      rw [show (k + 1 + (j : Int) - k - 1 - j).toNat = 0 by omega, Nat.pow_zero, Nat.one_mul] at h1
      exact h1.symm
    · rintro rfl; exact hself
  have A3 : f ≤ k + 1 + j := by
    rcases Int.lt_or_le (k + 1 + j) f with h1 | h1
    · exact (A1 f U h1 h.self).elim
    · exact h1
  exact ⟨A1, A2, A3, fun e => (A2 U).1 (e ▸ h.self)⟩
/-- A range that holds no multiple of ten. -/
theorem Grid.none (h : Read P U f) (hn : ∀ t, ¬ P (k + 1) t) : (∀ K D, k + 1 ≤ K → ¬ P K D) ∧ f ≤ k := by
  have B1 : ∀ K D, k + 1 ≤ K → ¬ P K D := fun K D hK hD => hn _ (h.far hK hD)
  refine ⟨B1, ?_⟩
  rcases Int.lt_or_le k f with h1 | h1
  · exact (B1 f U h1 h.self).elim
  · exact h1
end Go.Proofs.YtkjpelgdppmbjaaGreatDoor.HB
namespace Go.Proofs.YtkjpelgdppmbjaaGreatDoor.HC
open US PN

/-- The power of ten at or below a power of two; the same of three quarters of it. -/
def l10 (x : Int) : Int := x * 78913 / 262144
def skw (x : Int) : Int := (x * 631305 - 261663) / 2097152
def sOf (e p : Int) : Nat := (-(e + lp p + 3)).toNat
/-- Scaling by the power p at the exponent e loses nothing unseen, for the multiples of 2^g from L to X. -/
def fmtB (e p : Int) (g X L : Nat) : Bool :=
  decide (5 ≤ -(e + lp p + 3)) && decide (-(e + lp p + 3) ≤ 58) && decide (-348 ≤ p) && decide (p ≤ 347) &&
  (exactB p || farB (2 ^ g * pm p) (2 ^ (128 + sOf e p)) X L (2 ^ 64) (euc 300 X 1 (2 ^ g * pm p % 2 ^ (128 + sOf e p)) 0 (2 ^ (128 + sOf e p))))
def normB (i : Nat) : Bool := fmtB ((i : Int) - 1085) (-(l10 ((i : Int) - 1085 + 11))) 10 (2 ^ 54) (2 ^ 53 - 1)
def skewB (i : Nat) : Bool := fmtB ((i : Int) - 1084) (-(skw ((i : Int) - 1084 + 11))) 9 (2 ^ 54 + 3) (2 ^ 54 - 1)
def subB (i : Nat) : Bool := fmtB (-1086 - (i : Int)) (-(l10 (-1074))) (i + 11) (2 ^ (53 - i)) (2 ^ (52 - i) - 1)
theorem norm_all : (List.range 2046).all normB = true := by decide +kernel
theorem skew_all : (List.range 2045).all skewB = true := by decide +kernel
theorem sub_all : (List.range 52).all subB = true := by decide +kernel
/-- What a check tells. -/
theorem fmt_near {e p : Int} {g X L : Nat} (h : fmtB e p g X L = true) : 5 ≤ -(e + lp p + 3) ∧ -(e + lp p + 3) ≤ 58 ∧ -348 ≤ p ∧ p ≤ 347 ∧
    ∀ (x x' q : Nat) (r : Int), x = 2 ^ g * x' → L ≤ x' → x' < X → 0 < x' → x < 18446744073709551616 → (x : Int) * pm p = q * (2 ^ sOf e p * 340282366920938463463374607431768211456 : Nat) + r → -18446744073709551616 < r → r ≤ 18446744073709551616 → x * U p = q * (2 ^ sOf e p * 340282366920938463463374607431768211456 * V p) := by
  unfold fmtB at h
  simp only [Bool.and_eq_true, decide_eq_true_iff, Bool.or_eq_true] at h
  obtain ⟨⟨⟨⟨h1, h2⟩, h3⟩, h4⟩, h5⟩ := h
  refine ⟨h1, h2, h3, h4, ?_⟩
  intro x x' q r hx hL hX h0 hxl e' h6 h7
  rcases h5 with h5 | h5
  · exact exact_near h5 x (sOf e p) _ q r hxl rfl e' h6 h7
  · exact far_near (p := p) (s0 := sOf e p) (g := g) h5 x x' (sOf e p) _ q r (Nat.le_refl _) hL hX h0 hx rfl e' h6 h7
/-- A scaling that is just. -/
theorem fmt_unr {e p : Int} {g X L : Nat} (h : fmtB e p g X L = true) {x x' hi lo : Nat} (hx : x = 2 ^ g * x') (hL : L ≤ x') (hX : x' < X) (h0 : 0 < x') (hxl : x < 18446744073709551616) (hlo : lo < 18446744073709551616) (hpm : (hi : Int) * 18446744073709551616 - lo = pm p) :
    usc x hi lo (sOf e p) = unr (x * U p) (2 ^ sOf e p * 340282366920938463463374607431768211456 * V p) := by
  obtain ⟨_, _, _, _, hn⟩ := fmt_near h
  obtain ⟨δ, d1, d2, d3⟩ := pm_up p
  refine usc_unr x hi lo (sOf e p) (U p) (V p) _ δ hxl hlo (V_pos p) d1 d2 rfl (by rw [hpm]; exact d3) (fun q r h1 h2 h3 => ?_)
  rw [hpm] at h1
  exact hn x x' q r hx hL hX h0 hxl h1 h2 h3
/-- Four times a quotient, unrounded: its floor, and whether it is whole. -/
theorem unr_four (N Q : Nat) (hQ : 0 < Q) : unr (4 * N) Q / 4 = N / Q ∧ (unr (4 * N) Q % 4 = 0 ↔ N % Q = 0) := by
  have h1 := Nat.div_add_mod N Q
  have h2 := Nat.mod_lt N hQ
  generalize hn : N / Q = n at *
  generalize hr : N % Q = r at *
  obtain ⟨t, ht1, ht2⟩ : ∃ t, t * Q ≤ 4 * r ∧ 4 * r < (t + 1) * Q := ⟨4 * r / Q, Nat.div_mul_le_self _ _, by
    rw [Nat.mul_comm (4 * r / Q + 1) Q]; exact Nat.lt_mul_div_succ (4 * r) hQ⟩
  have ht : t < 4 := by
    apply Nat.lt_of_mul_lt_mul_right (a := Q)
    omega
  have e0 : 4 * n * Q = 4 * (Q * n) := by ac_rfl
  have hq : 4 * N / Q = 4 * n + t := by
    apply Nat.div_eq_of_lt_le
    · rw [Nat.add_mul, ← h1]; omega
    · rw [← h1, Nat.add_assoc, Nat.add_mul]; omega
  have hmod : 4 * N % Q = 4 * r - t * Q := by
    have h3 := Nat.div_add_mod (4 * N) Q
    rw [hq, Nat.mul_add, Nat.mul_comm Q t, ← h1, show Q * (4 * n) = 4 * (Q * n) by ac_rfl] at h3
    rw [← h1]
    omega
  have hor := or_bit (4 * n + t) (if 4 * N % Q = 0 then 0 else 1) (by split <;> omega)
  have hu : unr (4 * N) Q = 2 * ((4 * n + t) / 2) + (if (4 * n + t) % 2 = 1 ∨ (if 4 * N % Q = 0 then 0 else 1) = 1 then 1 else 0) := by unfold unr; rw [hq]; exact hor
  rw [hu]
  by_cases hz : 4 * N % Q = 0
  · rw [if_pos hz]
    have hrt : 4 * r = t * Q := by omega
    by_cases ht0 : t = 0
    · subst ht0
      have : r = 0 := by omega
      split <;> omega
    · have hr0 : r ≠ 0 := by
        intro hr0
        subst hr0
        rcases Nat.mul_eq_zero.1 hrt.symm with h | h <;> omega
      split <;> omega
  · rw [if_neg hz, if_pos (.inr rfl)]
    have hr0 : r ≠ 0 := by
      intro hr0
      subst hr0
      omega
    omega
def ceilQ (N Q : Nat) : Nat := N / Q + if N % Q = 0 then 0 else 1
theorem unr_ceil (N Q : Nat) (hQ : 0 < Q) : (unr (4 * N) Q + 3) / 4 = ceilQ N Q := by
  obtain ⟨h1, h2⟩ := unr_four N Q hQ
  unfold ceilQ
  by_cases h : N % Q = 0
  · rw [if_pos h]; have := h2.2 h; omega
  · rw [if_neg h]; have : ¬ unr (4 * N) Q % 4 = 0 := fun hc => h (h2.1 hc)
    omega
theorem unr_up (N Q : Nat) (hQ : 0 < Q) : (unr (4 * N) Q + 1 + 3) / 4 = N / Q + 1 := by
  obtain ⟨h1, _⟩ := unr_four N Q hQ
  omega
theorem unr_down (N Q : Nat) (hQ : 0 < Q) (hN : 0 < N) : 1 ≤ unr (4 * N) Q ∧ (unr (4 * N) Q - 1) / 4 = ceilQ N Q - 1 := by
  obtain ⟨h1, h2⟩ := unr_four N Q hQ
  unfold ceilQ
  by_cases h : N % Q = 0
  · have hd := Nat.div_add_mod N Q
    have hq : N / Q ≠ 0 := fun hc => by rw [hc, h] at hd; omega
    rw [if_pos h]; have := h2.2 h; omega
  · rw [if_neg h]; have : ¬ unr (4 * N) Q % 4 = 0 := fun hc => h (h2.1 hc)
    omega
theorem le_floor {D N Q : Nat} (hQ : 0 < Q) : D ≤ N / Q ↔ D * Q ≤ N := Nat.le_div_iff_mul_le hQ
theorem ceil_le {D N Q : Nat} (hQ : 0 < Q) : ceilQ N Q ≤ D ↔ N ≤ D * Q := by
  have h1 := Nat.div_add_mod N Q
  have h2 := Nat.mod_lt N hQ
  unfold ceilQ
  rw [Nat.mul_comm] at h1
  generalize N / Q = n at *
  generalize N % Q = r at *
  constructor
  · intro h
    by_cases hr : r = 0
    · rw [if_pos hr] at h
      have := Nat.mul_le_mul_right Q (show n ≤ D by omega)
      omega
    · rw [if_neg hr] at h
      have := Nat.mul_le_mul_right Q (show n + 1 ≤ D by omega)
      rw [Nat.add_mul, Nat.one_mul] at this
      omega
  · intro h
    by_cases hr : r = 0
    · rw [if_pos hr]
      rcases Nat.lt_or_ge D n with hc | hc
      · have := Nat.mul_le_mul_right Q (show D + 1 ≤ n by omega)
        rw [Nat.add_mul, Nat.one_mul] at this
        omega
      · omega
    · rw [if_neg hr]
      rcases Nat.lt_or_ge n D with hc | hc
      · omega
      · have := Nat.mul_le_mul_right Q (show D ≤ n by omega)
        omega
theorem lt_ceil {D N Q : Nat} (hQ : 0 < Q) : D < ceilQ N Q ↔ D * Q < N := by
  have := ceil_le (D := D) (N := N) hQ
  omega
theorem floor_lt {D N Q : Nat} (hQ : 0 < Q) : N / Q + 1 ≤ D ↔ N < D * Q := by
  have := le_floor (D := D) (N := N) hQ
  omega
end Go.Proofs.YtkjpelgdppmbjaaGreatDoor.HC
namespace Go.Proofs.YtkjpelgdppmbjaaGreatDoor.HD
open CQ HA HB HC SF

/-- D times 10^K is read as the word y. -/
def Reads (y : Nat) (K : Int) (D : Nat) : Prop := NearE (D * 10 ^ K.toNat) (10 ^ (-K).toNat) 0 y
theorem zone_scale {A C M j t : Nat} (ht : 0 < t) : Zone (A * t) (C * t) M j ↔ Zone A C M j := by
  have k1 : ∀ a b : Nat, a * t ≤ b * t ↔ a ≤ b := fun a b => Nat.mul_le_mul_right_iff ht
  have k2 : ∀ a b : Nat, a * t < b * t ↔ a < b := fun a b => Nat.mul_lt_mul_right ht
  have e1 : 2 * (A * t) = 2 * A * t := by rw [Nat.mul_assoc]
  have e2 : 2 * (M * (C * t)) + C * t = (2 * (M * C) + C) * t := by rw [Nat.add_mul, Nat.mul_assoc, Nat.mul_assoc]
  have e3 : 2 * (M * (C * t)) = 2 * (M * C) * t := by rw [Nat.mul_assoc, Nat.mul_assoc]
  have e4 : 2 * (A * t) + C * t = (2 * A + C) * t := by rw [Nat.add_mul, Nat.mul_assoc]
  have e5 : 4 * (M * (C * t)) = 4 * (M * C) * t := by rw [Nat.mul_assoc, Nat.mul_assoc]
  have e6 : 4 * (A * t) + C * t = (4 * A + C) * t := by rw [Nat.add_mul, Nat.mul_assoc]
  constructor
  · rintro ⟨h1, h2, h3, h4, h5⟩
    rw [e1, e2] at h1 h2
    rw [e3, e4] at h3 h4
    rw [e5, e6] at h5
    exact ⟨(k1 _ _).1 h1, fun h => (k2 _ _).1 (h2 h), fun h => (k1 _ _).1 (h3 h), fun h => (k2 _ _).1 (h4 h), fun h => (k1 _ _).1 (h5 h)⟩
  · rintro ⟨h1, h2, h3, h4, h5⟩
    refine ⟨?_, ?_, ?_, ?_, ?_⟩
    · rw [e1, e2]; exact (k1 _ _).2 h1
    · rw [e1, e2]; exact fun h => (k2 _ _).2 (h2 h)
    · rw [e3, e4]; exact fun h => (k1 _ _).2 (h3 h)
    · rw [e3, e4]; exact fun h => (k2 _ _).2 (h4 h)
    · rw [e5, e6]; exact fun h => (k1 _ _).2 (h5 h)
/-- One place of figures is T / Q of a number's own unit. -/
def unitT (e K : Int) : Nat := 2 ^ e.toNat * 10 ^ (-K).toNat
def unitQ (e K : Int) : Nat := 2 ^ (-e).toNat * 10 ^ K.toNat
theorem unitT_pos (e K : Int) : 0 < unitT e K := Nat.mul_pos (Nat.pow_pos (by omega)) (Nat.pow_pos (by omega))
theorem unitQ_pos (e K : Int) : 0 < unitQ e K := Nat.mul_pos (Nat.pow_pos (by omega)) (Nat.pow_pos (by omega))
theorem reads_zone {y m : Nat} {e K : Int} {D : Nat} (hw : Word y m e) : Reads y K D ↔ Zone (D * unitQ e K) (unitT e K) m (e + 1074).toNat := by
  obtain ⟨h1, h2, h3, h4, h5, h6⟩ := hw
  have hB : 0 < 10 ^ (-K).toNat := Nat.pow_pos (by omega)
  obtain ⟨N, hN⟩ : ∃ N : Nat, N = 1074 := ⟨_, rfl⟩
  have e1 : ((0 : Int) + 1074).toNat = N := by omega
  have e2 : (-((0 : Int) + 1074)).toNat = 0 := by omega
  unfold Reads NearE
  rw [e1, e2, Nat.pow_zero, Nat.mul_one, h1, near_zone hB h3 (fun h => h6 (by omega)) (by omega)]
  unfold unitT unitQ
  rcases Int.lt_or_le e 0 with h | h
  · have hj : 2 ^ N = 2 ^ (-e).toNat * 2 ^ (e + 1074).toNat := by rw [← Nat.pow_add]; congr 1; omega
    have e3 : e.toNat = 0 := by omega
    rw [hj, e3, Nat.pow_zero, Nat.one_mul]
    have hp : 0 < 2 ^ (e + 1074).toNat := Nat.pow_pos (by omega)
    rw [show D * 10 ^ K.toNat * (2 ^ (-e).toNat * 2 ^ (e + 1074).toNat) = D * (2 ^ (-e).toNat * 10 ^ K.toNat) * 2 ^ (e + 1074).toNat by ac_rfl]
    exact zone_scale hp
  · have hj : 2 ^ (e + 1074).toNat = 2 ^ e.toNat * 2 ^ N := by rw [← Nat.pow_add]; congr 1; omega
    have e3 : (-e).toNat = 0 := by omega
    rw [hj, e3, Nat.pow_zero, Nat.one_mul]
    have hp : 0 < 2 ^ N := Nat.pow_pos (by omega)
    rw [show 10 ^ (-K).toNat * (2 ^ e.toNat * 2 ^ N) = 2 ^ e.toNat * 10 ^ (-K).toNat * 2 ^ N by ac_rfl]
    exact zone_scale hp
/-- The least and the greatest figures that are read as the number, where its neighbours lie alike. -/
def loR (m T Q : Nat) : Nat := if m % 2 = 1 then (2 * m - 1) * T / (2 * Q) + 1 else ceilQ ((2 * m - 1) * T) (2 * Q)
def hiR (m T Q : Nat) : Nat := if m % 2 = 1 then ceilQ ((2 * m + 1) * T) (2 * Q) - 1 else (2 * m + 1) * T / (2 * Q)
theorem lo_iff {m T Q D : Nat} (hm : m ≠ 0) (hQ : 0 < Q) (_hT : 0 < T) : loR m T Q ≤ D ↔ (2 * (m * T) ≤ 2 * (D * Q) + T ∧ (m % 2 = 1 → 2 * (m * T) < 2 * (D * Q) + T)) := by
  have hQ2 : 0 < 2 * Q := by omega
  have e1 : (2 * m - 1) * T + T = 2 * (m * T) := by
    rw [← Nat.succ_mul, show (2 * m - 1).succ = 2 * m by omega, Nat.mul_assoc]
  have e2 : D * (2 * Q) = 2 * (D * Q) := by ac_rfl
  unfold loR
  split
  · rw [floor_lt hQ2, e2]
    constructor
    · intro h; exact ⟨by omega, fun _ => by omega⟩
    · rintro ⟨_, h⟩; have := h (by assumption); omega
  · rw [ceil_le hQ2, e2]
    constructor
    · intro h; exact ⟨by omega, fun h => by contradiction⟩
    · rintro ⟨h, _⟩; omega
theorem hi_iff {m T Q D : Nat} (_hm : m ≠ 0) (hQ : 0 < Q) (hT : 0 < T) : D ≤ hiR m T Q ↔ (2 * (D * Q) ≤ 2 * (m * T) + T ∧ (m % 2 = 1 → 2 * (D * Q) < 2 * (m * T) + T)) := by
  have hQ2 : 0 < 2 * Q := by omega
  have e1 : (2 * m + 1) * T = 2 * (m * T) + T := by rw [Nat.add_mul, Nat.one_mul, Nat.mul_assoc]
  have e2 : D * (2 * Q) = 2 * (D * Q) := by ac_rfl
  have hpos : 0 < (2 * m + 1) * T := Nat.mul_pos (by omega) hT
  unfold hiR
  split
  · have h0 : 0 < ceilQ ((2 * m + 1) * T) (2 * Q) := (lt_ceil hQ2).2 (by rw [Nat.zero_mul]; exact hpos)
    rw [show D ≤ ceilQ ((2 * m + 1) * T) (2 * Q) - 1 ↔ D < ceilQ ((2 * m + 1) * T) (2 * Q) by omega, lt_ceil hQ2, e2, e1]
    constructor
    · intro h; exact ⟨by omega, fun _ => h⟩
    · rintro ⟨_, h⟩; exact h (by assumption)
  · rw [le_floor hQ2, e2, e1]
    constructor
    · intro h; exact ⟨h, fun h => by contradiction⟩
    · rintro ⟨h, _⟩; exact h
/-- The rounded figures lie in the range. -/
theorem round_in {m T Q : Nat} (hm : m ≠ 0) (hQ : 0 < Q) (h1 : Q ≤ T) : loR m T Q ≤ rneQ (m * T) Q ∧ rneQ (m * T) Q ≤ hiR m T Q := by
  have hT : 0 < T := by omega
  have hmid := mid_round (A := m * T) hQ
  have hone : T = Q → rneQ (m * T) Q = m := fun h => by
    subst h
    exact (round_iff hQ).2 ⟨by omega, by omega, by omega, by omega⟩
  rw [lo_iff hm hQ hT, hi_iff hm hQ hT]
  obtain ⟨a1, a2, a3, a4⟩ := hmid
  by_cases hc : T = Q
  · rw [hone hc, hc]
    exact ⟨⟨by omega, fun _ => by omega⟩, by omega, fun _ => by omega⟩
  · exact ⟨⟨by omega, fun _ => by omega⟩, by omega, fun _ => by omega⟩
theorem grid_reg {y m : Nat} {e k : Int} (hw : Word y m e) (hs : ¬ (m = 4503599627370496 ∧ e ≠ -1074)) (h1 : unitQ e k ≤ unitT e k) (h2 : unitT e k < 10 * unitQ e k) :
    Grid (Reads y) k (loR m (unitT e k) (unitQ e k)) (hiR m (unitT e k) (unitQ e k)) := by
  have hQ := unitQ_pos e k
  have hT := unitT_pos e k
  obtain ⟨r1, r2⟩ := round_in hw.ne hQ h1
  have hz : ∀ D, Reads y k D ↔ loR m (unitT e k) (unitQ e k) ≤ D ∧ D ≤ hiR m (unitT e k) (unitQ e k) := fun D => by
    rw [reads_zone hw, lo_iff hw.ne hQ hT, hi_iff hw.ne hQ hT]
    have hsp : ¬ (m = 4503599627370496 ∧ (e + 1074).toNat ≠ 0) := fun h => hs ⟨h.1, fun he => h.2 (by omega)⟩
    constructor
    · rintro ⟨z1, z2, z3, z4, _⟩
      exact ⟨⟨z3 hsp, z4⟩, z1, z2⟩
    · rintro ⟨⟨z3, z4⟩, z1, z2⟩
      exact ⟨z1, z2, fun _ => z3, z4, fun h => absurd h hsp⟩
  have ha := (lo_iff (D := loR m (unitT e k) (unitQ e k)) hw.ne hQ hT).1 (Nat.le_refl _)
  have hb := (hi_iff (D := hiR m (unitT e k) (unitQ e k)) hw.ne hQ hT).1 (Nat.le_refl _)
  have hm : unitT e k ≤ m * unitT e k := Nat.le_mul_of_pos_left _ (by have := hw.ne; omega)
  generalize loR m (unitT e k) (unitQ e k) = lo at *
  generalize hiR m (unitT e k) (unitQ e k) = hi at *
  generalize unitT e k = T at *
  generalize unitQ e k = Q at *
  refine ⟨hz, Nat.le_trans r1 r2, ?_, ?_⟩
  · rcases Nat.lt_or_ge hi (lo + 10) with h | h
    · exact h
    · exfalso
      have h3 := Nat.mul_le_mul_right Q h
      rw [Nat.add_mul] at h3
      have := ha.1
      have := hb.1
      omega
  · rcases Nat.eq_zero_or_pos lo with h | h
    · exfalso
      subst h
      have := ha.1
      rw [Nat.zero_mul] at this
      omega
    · exact h
end Go.Proofs.YtkjpelgdppmbjaaGreatDoor.HD
namespace Go.Proofs.YtkjpelgdppmbjaaGreatDoor.SF
open Go.RowKit YtkjpelgdppmbjaaGreatDoorW.PrintWords CB HC

theorem log10Pow2_calls (x : Int) (w : World) (h1 : -10000 ≤ x) (h2 : x ≤ 10000) : Calls Tryz.prog 197 #[.int .i64 x] w fun e w' => e = .returned (.int .i64 (l10 x)) ∧ w = w' := by
  go_enter Tryz.func197, Tryz.ntmps197
  go_wp2
  go_ret
  exact ⟨rfl, rfl⟩
theorem skewed_calls (x : Int) (w : World) (h1 : -10000 ≤ x) (h2 : x ≤ 10000) : Calls Tryz.prog 226 #[.int .i64 x] w fun e w' => e = .returned (.int .i64 (skw x)) ∧ w = w' := by
  go_enter Tryz.func226, Tryz.ntmps226
  go_wp2
  go_ret
  exact ⟨rfl, rfl⟩
theorem nudge_up (u b : Nat) (w : World) (hu : u < 4611686018427387904) (hb : b ≤ 1) : Calls Tryz.prog 227 #[.int .u64 u, .int .i64 b] w fun e w' => e = .returned (.int .u64 ((u + b : Nat) : Int)) ∧ w = w' := by
  have h1 : IntKind.u64.wrap (b : Int) = (b : Int) := by rw [wu64]; omega
  have h2 : IntKind.u64.wrap ((u : Int) + b) = ((u + b : Nat) : Int) := by rw [wu64]; omega
  go_enter Tryz.func227, Tryz.ntmps227
  go_wp2
  go_ret
  exact ⟨congrArg (fun z => Ending.returned (.int .u64 z)) (by simp), rfl⟩
theorem nudge_down (u b : Nat) (k : Int) (w : World) (hk : k = -(b : Int)) (hu : u < 4611686018427387904) (hb : b ≤ 1) (hub : b ≤ u) : Calls Tryz.prog 227 #[.int .u64 u, .int .i64 k] w fun e w' => e = .returned (.int .u64 ((u - b : Nat) : Int)) ∧ w = w' := by
  have h2 : IntKind.u64.wrap ((u : Int) + IntKind.u64.wrap k) = ((u - b : Nat) : Int) := by rw [wu64, wu64, hk]; omega
  have h3 : ((u : Int) + k % 18446744073709551616) % 18446744073709551616 = ((u - b : Nat) : Int) := by rw [hk]; omega
  clear hk
  go_enter Tryz.func227, Tryz.ntmps227
  go_wp2
  go_ret
  exact ⟨congrArg (fun z => Ending.returned (.int .u64 z)) (by first | exact h2 | exact h3 | simp), rfl⟩
theorem ceil_calls (u : Nat) (w : World) (hu : u < 4611686018427387905) : Calls Tryz.prog 228 #[.int .u64 u] w fun e w' => e = .returned (.int .u64 (((u + 3) / 4 : Nat) : Int)) ∧ w = w' := by
  have h1 : IntKind.u64.wrap ((u : Int) + 3) = (u : Int) + 3 := by rw [wu64]; omega
  go_enter Tryz.func228, Tryz.ntmps228
  go_wp2
  go_ret
  exact ⟨congrArg (fun z => Ending.returned (.int .u64 z)) (by simp), rfl⟩
theorem floor_calls (u : Nat) (w : World) (hu : u < 4611686018427387905) : Calls Tryz.prog 229 #[.int .u64 u] w fun e w' => e = .returned (.int .u64 ((u / 4 : Nat) : Int)) ∧ w = w' := by
  go_enter Tryz.func229, Tryz.ntmps229
  go_wp2
  go_ret
  exact ⟨congrArg (fun z => Ending.returned (.int .u64 z)) (by simp), rfl⟩
/-- What shortFloat makes of a range: a multiple of ten, or the rounded figures, or the range's one. -/
def pickD (lo hi r : Nat) : Nat := if lo ≤ hi / 10 * 10 then hi / 10 else if lo < hi then r else lo
def pickK (lo hi : Nat) (k : Int) : Int := if lo ≤ hi / 10 * 10 then k + 1 else k
/-- The three scalings. -/
structure Scaled (hi lo sn x u : Nat) : Prop where mk ::
  out : ∀ (k : Int) (B : Nat) (W : World), k = x → W.cell? ⟨B, 0, none⟩ = some (.int .u64 hi) → W.cell? ⟨B, 1, none⟩ = some (.int .u64 lo) → W.cell? ⟨B, 2, none⟩ = some (.int .i64 sn) →
      Calls Tryz.prog 216 #[.int .u64 k, .pointer (some ⟨B, 0, none⟩)] W fun e w' => e = .returned (.int .u64 (u : Nat)) ∧ ∃ n, w' = W.drewN n
theorem scaled_of {x hi lo sn u : Nat} (hx : x < 18446744073709551616) (hhi : hi < 18446744073709551616) (hlo : lo < 18446744073709551616) (hs : sn < 64) (hnn : lo ≤ hi * 18446744073709551616) (hu : US.usc x hi lo sn = u) : Scaled hi lo sn x u := by
  refine ⟨fun k B W hk e0 e1 e2 => ?_⟩
  subst hk
  have h := uscale_calls x hi lo sn B W hx hhi hlo hs (by rw [Nat.mul_assoc]; exact Nat.mul_le_mul_left _ hnn) e0 e1 e2
  rw [hu] at h
  exact h
set_option maxHeartbeats 8000000 in
set_option maxRecDepth 100000 in
theorem short_norm (m mn mx b lo hi r u1 u2 u3 phi plo sn : Nat) (e k : Int) (w : World) (hm1 : 9223372036854775808 < m) (hm2 : m ≤ 18446744073709549568) (he1 : -1085 ≤ e) (he2 : e ≤ 960) (hmn : mn = m - 1024) (hmx : mx = m + 1024) (hb : b = m / 2048 % 2)
    (hk : l10 (e + 11) = k) (hk1 : -340 ≤ k) (hk2 : k ≤ 340) (hsn : (sn : Int) = -(e + US.lp (-k) + 3))
    (h1 : Scaled phi plo sn mn u1) (h2 : Scaled phi plo sn mx u2) (h3 : Scaled phi plo sn m u3) (hu1 : u1 < 4611686018427387904) (hu2 : u2 < 4611686018427387904) (hu3 : u3 < 4611686018427387904) (hb1 : b ≤ 1) (hbu : b ≤ u2)
    (hlo : (u1 + b + 3) / 4 = lo) (hhi : (u2 - b) / 4 = hi) (hr : (u3 + 1 + u3 / 4 % 2) / 4 = r) (hw : 13 < w.heap.size)
    (c0 : w.cell? ⟨13, (-k + 348).toNat * 2, none⟩ = some (.int .u64 phi)) (c1 : w.cell? ⟨13, (-k + 348).toNat * 2 + 1, none⟩ = some (.int .u64 plo)) :
    Calls Tryz.prog 202 #[.int .u64 (m : Int), .int .i64 e] w fun r' w' => r' = .returned (.tuple #[.int .u64 (pickD lo hi r : Nat), .int .i64 (pickK lo hi k)]) ∧ Below w.heap.size w w' := by
  have a1 : ((m : Int) == 9223372036854775808) = false := by rw [beq_eq_false_iff_ne]; omega
  have a2 : decide ((-1085 : Int) ≤ e) = true := decide_eq_true he1
  have a3 : Go.bits .and .i64 ((m : Int) / 2048) 1 = (b : Int) := by
    have := and_i64 (m / 2048) 1 (by omega) (by omega)
    rw [Nat.and_one_is_mod, ← hb] at this
    rw [show (m : Int) / 2048 = ((m / 2048 : Nat) : Int) by omega]; exact this
  have hnu := fun W => nudge_up u1 b W hu1 hb1
  have hnd := fun W k hk => nudge_down u2 b k W hk hu2 hb1 hbu
  obtain ⟨v1, hv1⟩ : ∃ v1, u1 + b = v1 := ⟨_, rfl⟩
  obtain ⟨v2, hv2⟩ : ∃ v2, u2 - b = v2 := ⟨_, rfl⟩
  rw [hv1] at hnu hlo
  rw [hv2] at hnd hhi
  have hceil := fun W => ceil_calls v1 W (by omega)
  rw [hlo] at hceil
  have hfloor := fun W => floor_calls v2 W (by omega)
  rw [hhi] at hfloor
  have hround := fun W => round_calls u3 W (by omega)
  rw [hr] at hround
  have hlol : lo ≤ 1152921504606846977 := by omega
  have hhil : hi ≤ 1152921504606846976 := by omega
  have HCE := Lib.hid hceil
  have HFL := Lib.hid hfloor
  have HRO := Lib.hid hround
  have H1 := Lib.hid h1
  have H2 := Lib.hid h2
  have H3 := Lib.hid h3
  have HSN := Lib.hid hsn
  have HNU := Lib.hid hnu
  have HND := Lib.hid hnd
  have hl10 : ∀ (x : Int) (W : World), x = e + 11 → Calls Tryz.prog 197 #[.int .i64 x] W fun r' w' => r' = .returned (.int .i64 k) ∧ W = w' := fun x W hx => by
    subst hx
    have h := log10Pow2_calls (e + 11) W (by omega) (by omega)
    rw [hk] at h
    exact h
  have HL := Lib.hid hl10
  clear hnu hnd hv1 hv2 hceil hfloor hround h1 h2 h3 hsn hlo hhi hr hu1 hu2 hu3 hbu hk hb hl10
  rcases zQ lo hi with ⟨hA, q1⟩ | ⟨hA, q1, hB, q2⟩ | ⟨hA, q1, hB, q2⟩
  all_goals
    go_enter Tryz.func202, Tryz.ntmps202
    go_wp2_with (first | (go_at_call 197; ((with_reducible refine (HL.out _ _ (by omega)).mono ?_); rintro e' w' ⟨rfl, rfl⟩)) | (go_at_call 226; ((with_reducible refine (HL.out _ _ (by omega)).mono ?_); rintro e' w' ⟨rfl, rfl⟩)) | (go_at_call 214; refine (log2Pow10_calls (-k) _ (by omega) (by omega)).mono ?_; rintro e' w' ⟨rfl, rfl⟩) | (go_at_call 215; refine (prescale_calls _ (-k) sn phi plo _ _ _ w HSN.out (by omega) (by omega) (by omega) (by omega) hw c0 c1).mono ?_; rintro e' w' ⟨rfl, rfl⟩) | (go_at_call 216; (first | refine (H1.out.out _ _ _ (by omega) (by go_simp) (by go_simp) (by go_simp)).mono ?_ | refine (H2.out.out _ _ _ (by omega) (by go_simp) (by go_simp) (by go_simp)).mono ?_ | refine (H3.out.out _ _ _ (by omega) (by go_simp) (by go_simp) (by go_simp)).mono ?_); rintro e' w' ⟨rfl, nq, rfl⟩) | (go_at_call 227; (first | ((with_reducible refine (HNU.out _).mono ?_); rintro e' w' ⟨rfl, rfl⟩) | ((with_reducible refine (HND.out _ _ (by omega)).mono ?_); rintro e' w' ⟨rfl, rfl⟩))) | (go_at_call 228; ((with_reducible refine (HCE.out _).mono ?_); rintro e' w' ⟨rfl, rfl⟩)) | (go_at_call 229; ((with_reducible refine (HFL.out _).mono ?_); rintro e' w' ⟨rfl, rfl⟩)) | (go_at_call 220; ((with_reducible refine (HRO.out _).mono ?_); rintro e' w' ⟨rfl, rfl⟩)))
    go_ret2
    refine ⟨?_, pw_below_drewN ((Below.refl _ _).alloc (Nat.le_refl _) _) _⟩
    unfold pickD pickK
  · rw [if_pos hA, if_pos hA, show k + 1 = -(-k - 1) by omega]
    rfl
  · rw [if_neg hA, if_neg hA, if_pos hB]
    first
    | rfl
    | (rw [Int.neg_neg]; done)
    | (simp; done)
  · rw [if_neg hA, if_neg hA, if_neg hB]
    first
    | rfl
    | (rw [Int.neg_neg]; done)
    | (simp; done)
set_option maxHeartbeats 8000000 in
set_option maxRecDepth 100000 in
theorem short_skew (m mn mx b lo hi r u1 u2 u3 phi plo sn : Nat) (e k : Int) (w : World) (hm1 : m = 9223372036854775808) (he1 : -1085 < e) (he2 : e ≤ 960) (hmn : mn = m - 512) (hmx : mx = m + 1024) (hb : b = 0)
    (hk : skw (e + 11) = k) (hk1 : -340 ≤ k) (hk2 : k ≤ 340) (hsn : (sn : Int) = -(e + US.lp (-k) + 3))
    (h1 : Scaled phi plo sn mn u1) (h2 : Scaled phi plo sn mx u2) (h3 : Scaled phi plo sn m u3) (hu1 : u1 < 4611686018427387904) (hu2 : u2 < 4611686018427387904) (hu3 : u3 < 4611686018427387904) (hb1 : b ≤ 1) (hbu : b ≤ u2)
    (hlo : (u1 + b + 3) / 4 = lo) (hhi : (u2 - b) / 4 = hi) (hr : (u3 + 1 + u3 / 4 % 2) / 4 = r) (hw : 13 < w.heap.size)
    (c0 : w.cell? ⟨13, (-k + 348).toNat * 2, none⟩ = some (.int .u64 phi)) (c1 : w.cell? ⟨13, (-k + 348).toNat * 2 + 1, none⟩ = some (.int .u64 plo)) :
    Calls Tryz.prog 202 #[.int .u64 (m : Int), .int .i64 e] w fun r' w' => r' = .returned (.tuple #[.int .u64 (pickD lo hi r : Nat), .int .i64 (pickK lo hi k)]) ∧ Below w.heap.size w w' := by
  have a1 : ((m : Int) == 9223372036854775808) = true := by rw [beq_iff_eq]; omega
  have a2 : decide ((-1085 : Int) < e) = true := decide_eq_true he1
  have a3 : Go.bits .and .i64 ((m : Int) / 2048) 1 = (b : Int) := by
    have := and_i64 (m / 2048) 1 (by omega) (by omega)
    rw [Nat.and_one_is_mod, hm1] at this
    rw [hm1, hb]; exact this
  have hnu := fun W => nudge_up u1 b W hu1 hb1
  have hnd := fun W k hk => nudge_down u2 b k W hk hu2 hb1 hbu
  obtain ⟨v1, hv1⟩ : ∃ v1, u1 + b = v1 := ⟨_, rfl⟩
  obtain ⟨v2, hv2⟩ : ∃ v2, u2 - b = v2 := ⟨_, rfl⟩
  rw [hv1] at hnu hlo
  rw [hv2] at hnd hhi
  have hceil := fun W => ceil_calls v1 W (by omega)
  rw [hlo] at hceil
  have hfloor := fun W => floor_calls v2 W (by omega)
  rw [hhi] at hfloor
  have hround := fun W => round_calls u3 W (by omega)
  rw [hr] at hround
  have hlol : lo ≤ 1152921504606846977 := by omega
  have hhil : hi ≤ 1152921504606846976 := by omega
  have HCE := Lib.hid hceil
  have HFL := Lib.hid hfloor
  have HRO := Lib.hid hround
  have H1 := Lib.hid h1
  have H2 := Lib.hid h2
  have H3 := Lib.hid h3
  have HSN := Lib.hid hsn
  have HNU := Lib.hid hnu
  have HND := Lib.hid hnd
  have hl10 : ∀ (x : Int) (W : World), x = e + 11 → Calls Tryz.prog 226 #[.int .i64 x] W fun r' w' => r' = .returned (.int .i64 k) ∧ W = w' := fun x W hx => by
    subst hx
    have h := skewed_calls (e + 11) W (by omega) (by omega)
    rw [hk] at h
    exact h
  have HL := Lib.hid hl10
  have hmr : 9223372036854775808 ≤ m ∧ m ≤ 9223372036854775808 := by omega
  obtain ⟨hmr1, hmr2⟩ := hmr
  clear hm1
  clear hnu hnd hv1 hv2 hceil hfloor hround h1 h2 h3 hsn hlo hhi hr hu1 hu2 hu3 hbu hk hb hl10
  rcases zQ lo hi with ⟨hA, q1⟩ | ⟨hA, q1, hB, q2⟩ | ⟨hA, q1, hB, q2⟩
  all_goals
    go_enter Tryz.func202, Tryz.ntmps202
    go_wp2_with (first | (go_at_call 197; ((with_reducible refine (HL.out _ _ (by omega)).mono ?_); rintro e' w' ⟨rfl, rfl⟩)) | (go_at_call 226; ((with_reducible refine (HL.out _ _ (by omega)).mono ?_); rintro e' w' ⟨rfl, rfl⟩)) | (go_at_call 214; refine (log2Pow10_calls (-k) _ (by omega) (by omega)).mono ?_; rintro e' w' ⟨rfl, rfl⟩) | (go_at_call 215; refine (prescale_calls _ (-k) sn phi plo _ _ _ w HSN.out (by omega) (by omega) (by omega) (by omega) hw c0 c1).mono ?_; rintro e' w' ⟨rfl, rfl⟩) | (go_at_call 216; (first | refine (H1.out.out _ _ _ (by omega) (by go_simp) (by go_simp) (by go_simp)).mono ?_ | refine (H2.out.out _ _ _ (by omega) (by go_simp) (by go_simp) (by go_simp)).mono ?_ | refine (H3.out.out _ _ _ (by omega) (by go_simp) (by go_simp) (by go_simp)).mono ?_); rintro e' w' ⟨rfl, nq, rfl⟩) | (go_at_call 227; (first | ((with_reducible refine (HNU.out _).mono ?_); rintro e' w' ⟨rfl, rfl⟩) | ((with_reducible refine (HND.out _ _ (by omega)).mono ?_); rintro e' w' ⟨rfl, rfl⟩))) | (go_at_call 228; ((with_reducible refine (HCE.out _).mono ?_); rintro e' w' ⟨rfl, rfl⟩)) | (go_at_call 229; ((with_reducible refine (HFL.out _).mono ?_); rintro e' w' ⟨rfl, rfl⟩)) | (go_at_call 220; ((with_reducible refine (HRO.out _).mono ?_); rintro e' w' ⟨rfl, rfl⟩)))
    go_ret2
    refine ⟨?_, pw_below_drewN ((Below.refl _ _).alloc (Nat.le_refl _) _) _⟩
    unfold pickD pickK
  · rw [if_pos hA, if_pos hA, show k + 1 = -(-k - 1) by omega]
    rfl
  · rw [if_neg hA, if_neg hA, if_pos hB]
    first
    | rfl
    | (rw [Int.neg_neg]; done)
    | (simp; done)
  · rw [if_neg hA, if_neg hA, if_neg hB]
    first
    | rfl
    | (rw [Int.neg_neg]; done)
    | (simp; done)
set_option maxHeartbeats 8000000 in
set_option maxRecDepth 100000 in
theorem short_least (m mn mx b lo hi r u1 u2 u3 phi plo sn : Nat) (e k : Int) (w : World) (hm1 : m = 9223372036854775808) (he1 : e = -1085) (hmn : mn = m - 1024) (hmx : mx = m + 1024) (hb : b = m / 2048 % 2)
    (hk : l10 (e + 11) = k) (hk1 : -340 ≤ k) (hk2 : k ≤ 340) (hsn : (sn : Int) = -(e + US.lp (-k) + 3))
    (h1 : Scaled phi plo sn mn u1) (h2 : Scaled phi plo sn mx u2) (h3 : Scaled phi plo sn m u3) (hu1 : u1 < 4611686018427387904) (hu2 : u2 < 4611686018427387904) (hu3 : u3 < 4611686018427387904) (hb1 : b ≤ 1) (hbu : b ≤ u2)
    (hlo : (u1 + b + 3) / 4 = lo) (hhi : (u2 - b) / 4 = hi) (hr : (u3 + 1 + u3 / 4 % 2) / 4 = r) (hw : 13 < w.heap.size)
    (c0 : w.cell? ⟨13, (-k + 348).toNat * 2, none⟩ = some (.int .u64 phi)) (c1 : w.cell? ⟨13, (-k + 348).toNat * 2 + 1, none⟩ = some (.int .u64 plo)) :
    Calls Tryz.prog 202 #[.int .u64 (m : Int), .int .i64 e] w fun r' w' => r' = .returned (.tuple #[.int .u64 (pickD lo hi r : Nat), .int .i64 (pickK lo hi k)]) ∧ Below w.heap.size w w' := by
  have a1 : ((m : Int) == 9223372036854775808) = true := by rw [beq_iff_eq]; omega
  have a2 : decide ((-1085 : Int) < e) = false := decide_eq_false (by omega)
  have a4 : decide ((-1085 : Int) ≤ e) = true := decide_eq_true (by omega)
  have a3 : Go.bits .and .i64 ((m : Int) / 2048) 1 = (b : Int) := by
    have := and_i64 (m / 2048) 1 (by omega) (by omega)
    rw [Nat.and_one_is_mod, ← hb] at this
    rw [show (m : Int) / 2048 = ((m / 2048 : Nat) : Int) by omega]; exact this
  have hnu := fun W => nudge_up u1 b W hu1 hb1
  have hnd := fun W k hk => nudge_down u2 b k W hk hu2 hb1 hbu
  obtain ⟨v1, hv1⟩ : ∃ v1, u1 + b = v1 := ⟨_, rfl⟩
  obtain ⟨v2, hv2⟩ : ∃ v2, u2 - b = v2 := ⟨_, rfl⟩
  rw [hv1] at hnu hlo
  rw [hv2] at hnd hhi
  have hceil := fun W => ceil_calls v1 W (by omega)
  rw [hlo] at hceil
  have hfloor := fun W => floor_calls v2 W (by omega)
  rw [hhi] at hfloor
  have hround := fun W => round_calls u3 W (by omega)
  rw [hr] at hround
  have hlol : lo ≤ 1152921504606846977 := by omega
  have hhil : hi ≤ 1152921504606846976 := by omega
  have HCE := Lib.hid hceil
  have HFL := Lib.hid hfloor
  have HRO := Lib.hid hround
  have H1 := Lib.hid h1
  have H2 := Lib.hid h2
  have H3 := Lib.hid h3
  have HSN := Lib.hid hsn
  have HNU := Lib.hid hnu
  have HND := Lib.hid hnd
  have hl10 : ∀ (x : Int) (W : World), x = e + 11 → Calls Tryz.prog 197 #[.int .i64 x] W fun r' w' => r' = .returned (.int .i64 k) ∧ W = w' := fun x W hx => by
    subst hx
    have h := log10Pow2_calls (e + 11) W (by omega) (by omega)
    rw [hk] at h
    exact h
  have HL := Lib.hid hl10
  have hmr : 9223372036854775808 ≤ m ∧ m ≤ 9223372036854775808 := by omega
  obtain ⟨hmr1, hmr2⟩ := hmr
  have her : -1085 ≤ e ∧ e ≤ -1085 := by omega
  obtain ⟨her1, her2⟩ := her
  clear hm1 he1
  clear hnu hnd hv1 hv2 hceil hfloor hround h1 h2 h3 hsn hlo hhi hr hu1 hu2 hu3 hbu hk hb hl10
  rcases zQ lo hi with ⟨hA, q1⟩ | ⟨hA, q1, hB, q2⟩ | ⟨hA, q1, hB, q2⟩
  all_goals
    go_enter Tryz.func202, Tryz.ntmps202
    go_wp2_with (first | (go_at_call 197; ((with_reducible refine (HL.out _ _ (by omega)).mono ?_); rintro e' w' ⟨rfl, rfl⟩)) | (go_at_call 226; ((with_reducible refine (HL.out _ _ (by omega)).mono ?_); rintro e' w' ⟨rfl, rfl⟩)) | (go_at_call 214; refine (log2Pow10_calls (-k) _ (by omega) (by omega)).mono ?_; rintro e' w' ⟨rfl, rfl⟩) | (go_at_call 215; refine (prescale_calls _ (-k) sn phi plo _ _ _ w HSN.out (by omega) (by omega) (by omega) (by omega) hw c0 c1).mono ?_; rintro e' w' ⟨rfl, rfl⟩) | (go_at_call 216; (first | refine (H1.out.out _ _ _ (by omega) (by go_simp) (by go_simp) (by go_simp)).mono ?_ | refine (H2.out.out _ _ _ (by omega) (by go_simp) (by go_simp) (by go_simp)).mono ?_ | refine (H3.out.out _ _ _ (by omega) (by go_simp) (by go_simp) (by go_simp)).mono ?_); rintro e' w' ⟨rfl, nq, rfl⟩) | (go_at_call 227; (first | ((with_reducible refine (HNU.out _).mono ?_); rintro e' w' ⟨rfl, rfl⟩) | ((with_reducible refine (HND.out _ _ (by omega)).mono ?_); rintro e' w' ⟨rfl, rfl⟩))) | (go_at_call 228; ((with_reducible refine (HCE.out _).mono ?_); rintro e' w' ⟨rfl, rfl⟩)) | (go_at_call 229; ((with_reducible refine (HFL.out _).mono ?_); rintro e' w' ⟨rfl, rfl⟩)) | (go_at_call 220; ((with_reducible refine (HRO.out _).mono ?_); rintro e' w' ⟨rfl, rfl⟩)))
    go_ret2
    refine ⟨?_, pw_below_drewN ((Below.refl _ _).alloc (Nat.le_refl _) _) _⟩
    unfold pickD pickK
  · rw [if_pos hA, if_pos hA, show k + 1 = -(-k - 1) by omega]
    rfl
  · rw [if_neg hA, if_neg hA, if_pos hB]
    first
    | rfl
    | (rw [Int.neg_neg]; done)
    | (simp; done)
  · rw [if_neg hA, if_neg hA, if_neg hB]
    first
    | rfl
    | (rw [Int.neg_neg]; done)
    | (simp; done)
set_option maxHeartbeats 8000000 in
set_option maxRecDepth 100000 in
theorem short_sub (m mn mx b lo hi r u1 u2 u3 phi plo sn : Nat) (e k : Int) (w : World) (z t : Nat) (hz1 : 12 ≤ z) (hz2 : z ≤ 63) (ht : t = 2 ^ (z - 1)) (_hm1 : 9223372036854775808 ≤ m) (hmt : t ≤ m) (hmu : m + t < 18446744073709551616) (hm63 : (decide (m = 9223372036854775808)) = false) (he : e = -1074 - (z : Int)) (hmn : mn = m - t) (hmx : mx = m + t) (hb : b = m / 2 ^ z % 2)
    (hk : l10 (-1074) = k) (hk1 : -340 ≤ k) (hk2 : k ≤ 340) (hsn : (sn : Int) = -(e + US.lp (-k) + 3))
    (h1 : Scaled phi plo sn mn u1) (h2 : Scaled phi plo sn mx u2) (h3 : Scaled phi plo sn m u3) (hu1 : u1 < 4611686018427387904) (hu2 : u2 < 4611686018427387904) (hu3 : u3 < 4611686018427387904) (hb1 : b ≤ 1) (hbu : b ≤ u2)
    (hlo : (u1 + b + 3) / 4 = lo) (hhi : (u2 - b) / 4 = hi) (hr : (u3 + 1 + u3 / 4 % 2) / 4 = r) (hw : 13 < w.heap.size)
    (c0 : w.cell? ⟨13, (-k + 348).toNat * 2, none⟩ = some (.int .u64 phi)) (c1 : w.cell? ⟨13, (-k + 348).toNat * 2 + 1, none⟩ = some (.int .u64 plo)) :
    Calls Tryz.prog 202 #[.int .u64 (m : Int), .int .i64 e] w fun r' w' => r' = .returned (.tuple #[.int .u64 (pickD lo hi r : Nat), .int .i64 (pickK lo hi k)]) ∧ Below w.heap.size w w' := by
  have a1 : ((m : Int) == 9223372036854775808) = false := by rw [beq_eq_false_iff_ne]; have := of_decide_eq_false hm63; omega
  have a2 : decide ((-1085 : Int) < e) = false := decide_eq_false (by omega)
  have a4 : decide ((-1085 : Int) ≤ e) = false := decide_eq_false (by omega)
  have a5 : (11 : Int) + (-1085 - e) = (z : Int) := by omega
  have a6 : e + (z : Int) = -1074 := by omega
  have ht2 : t < 9223372036854775808 := by
    rw [ht]
    exact Nat.lt_of_lt_of_le (Nat.pow_lt_pow_right (by omega) (show z - 1 < 63 by omega)) (by decide)
  have a7 : (2 : Int) ^ (z - 1) = (t : Int) := by rw [ht, Int.natCast_pow]; rfl
  have hq : m / 2 ^ z < 9223372036854775808 := by
    have : 2 ≤ 2 ^ z := Nat.le_trans (by decide) (Nat.pow_le_pow_right (by omega) (show 1 ≤ z by omega))
    rw [Nat.div_lt_iff_lt_mul (Nat.pow_pos (by omega))]
    omega
  have a3 : Go.bits .and .i64 ((m : Int) / 2 ^ z) 1 = (b : Int) := by
    have := and_i64 (m / 2 ^ z) 1 hq (by omega)
    rw [Nat.and_one_is_mod, ← hb, Int.natCast_ediv, pow_cast] at this
    exact this
  have hnu := fun W => nudge_up u1 b W hu1 hb1
  have hnd := fun W k hk => nudge_down u2 b k W hk hu2 hb1 hbu
  obtain ⟨v1, hv1⟩ : ∃ v1, u1 + b = v1 := ⟨_, rfl⟩
  obtain ⟨v2, hv2⟩ : ∃ v2, u2 - b = v2 := ⟨_, rfl⟩
  rw [hv1] at hnu hlo
  rw [hv2] at hnd hhi
  have hceil := fun W => ceil_calls v1 W (by omega)
  rw [hlo] at hceil
  have hfloor := fun W => floor_calls v2 W (by omega)
  rw [hhi] at hfloor
  have hround := fun W => round_calls u3 W (by omega)
  rw [hr] at hround
  have hlol : lo ≤ 1152921504606846977 := by omega
  have hhil : hi ≤ 1152921504606846976 := by omega
  have HCE := Lib.hid hceil
  have HFL := Lib.hid hfloor
  have HRO := Lib.hid hround
  have H1 := Lib.hid h1
  have H2 := Lib.hid h2
  have H3 := Lib.hid h3
  have HSN := Lib.hid hsn
  have HNU := Lib.hid hnu
  have HND := Lib.hid hnd
  have hl10 : ∀ (x : Int) (W : World), x = -1074 → Calls Tryz.prog 197 #[.int .i64 x] W fun r' w' => r' = .returned (.int .i64 k) ∧ W = w' := fun x W hx => by
    subst hx
    have h := log10Pow2_calls (-1074) W (by omega) (by omega)
    rw [hk] at h
    exact h
  have HL := Lib.hid hl10
  have her : -1137 ≤ e ∧ e ≤ -1086 := by omega
  obtain ⟨her1, her2⟩ := her
  have HZ := Lib.hid ht
  have hqi : (m : Int) / 2 ^ z < 9223372036854775808 := by rw [← pow_cast, ← Int.natCast_ediv]; exact Int.ofNat_lt.2 hq
  have hqi0 : (0 : Int) ≤ (m : Int) / 2 ^ z := by rw [← pow_cast, ← Int.natCast_ediv]; exact Int.natCast_nonneg _
  clear he ht hm63 hq
  clear hnu hnd hv1 hv2 hceil hfloor hround h1 h2 h3 hsn hlo hhi hr hu1 hu2 hu3 hbu hk hb hl10
  rcases zQ lo hi with ⟨hA, q1⟩ | ⟨hA, q1, hB, q2⟩ | ⟨hA, q1, hB, q2⟩
  all_goals
    go_enter Tryz.func202, Tryz.ntmps202
    go_wp2_with (first | (go_at_call 197; ((with_reducible refine (HL.out _ _ (by omega)).mono ?_); rintro e' w' ⟨rfl, rfl⟩)) | (go_at_call 226; ((with_reducible refine (HL.out _ _ (by omega)).mono ?_); rintro e' w' ⟨rfl, rfl⟩)) | (go_at_call 214; refine (log2Pow10_calls (-k) _ (by omega) (by omega)).mono ?_; rintro e' w' ⟨rfl, rfl⟩) | (go_at_call 215; refine (prescale_calls _ (-k) sn phi plo _ _ _ w HSN.out (by omega) (by omega) (by omega) (by omega) hw c0 c1).mono ?_; rintro e' w' ⟨rfl, rfl⟩) | (go_at_call 216; (first | refine (H1.out.out _ _ _ (by omega) (by go_simp) (by go_simp) (by go_simp)).mono ?_ | refine (H2.out.out _ _ _ (by omega) (by go_simp) (by go_simp) (by go_simp)).mono ?_ | refine (H3.out.out _ _ _ (by omega) (by go_simp) (by go_simp) (by go_simp)).mono ?_); rintro e' w' ⟨rfl, nq, rfl⟩) | (go_at_call 227; (first | ((with_reducible refine (HNU.out _).mono ?_); rintro e' w' ⟨rfl, rfl⟩) | ((with_reducible refine (HND.out _ _ (by omega)).mono ?_); rintro e' w' ⟨rfl, rfl⟩))) | (go_at_call 228; ((with_reducible refine (HCE.out _).mono ?_); rintro e' w' ⟨rfl, rfl⟩)) | (go_at_call 229; ((with_reducible refine (HFL.out _).mono ?_); rintro e' w' ⟨rfl, rfl⟩)) | (go_at_call 220; ((with_reducible refine (HRO.out _).mono ?_); rintro e' w' ⟨rfl, rfl⟩)))
    go_ret2
    refine ⟨?_, pw_below_drewN ((Below.refl _ _).alloc (Nat.le_refl _) _) _⟩
    unfold pickD pickK
  · rw [if_pos hA, if_pos hA, show k + 1 = -(-k - 1) by omega]
    rfl
  · rw [if_neg hA, if_neg hA, if_pos hB]
    first
    | rfl
    | (rw [Int.neg_neg]; done)
    | (simp; done)
  · rw [if_neg hA, if_neg hA, if_neg hB]
    first
    | rfl
    | (rw [Int.neg_neg]; done)
    | (simp; done)
set_option maxHeartbeats 8000000 in
set_option maxRecDepth 100000 in
theorem short_sub63 (m mn mx b lo hi r u1 u2 u3 phi plo sn : Nat) (e k : Int) (w : World) (z t : Nat) (hz1 : 12 ≤ z) (hz2 : z ≤ 63) (ht : t = 2 ^ (z - 1)) (_hm1 : 9223372036854775808 ≤ m) (hmt : t ≤ m) (hmu : m + t < 18446744073709551616) (hm63 : (decide (m = 9223372036854775808)) = true) (he : e = -1074 - (z : Int)) (hmn : mn = m - t) (hmx : mx = m + t) (hb : b = m / 2 ^ z % 2)
    (hk : l10 (-1074) = k) (hk1 : -340 ≤ k) (hk2 : k ≤ 340) (hsn : (sn : Int) = -(e + US.lp (-k) + 3))
    (h1 : Scaled phi plo sn mn u1) (h2 : Scaled phi plo sn mx u2) (h3 : Scaled phi plo sn m u3) (hu1 : u1 < 4611686018427387904) (hu2 : u2 < 4611686018427387904) (hu3 : u3 < 4611686018427387904) (hb1 : b ≤ 1) (hbu : b ≤ u2)
    (hlo : (u1 + b + 3) / 4 = lo) (hhi : (u2 - b) / 4 = hi) (hr : (u3 + 1 + u3 / 4 % 2) / 4 = r) (hw : 13 < w.heap.size)
    (c0 : w.cell? ⟨13, (-k + 348).toNat * 2, none⟩ = some (.int .u64 phi)) (c1 : w.cell? ⟨13, (-k + 348).toNat * 2 + 1, none⟩ = some (.int .u64 plo)) :
    Calls Tryz.prog 202 #[.int .u64 (m : Int), .int .i64 e] w fun r' w' => r' = .returned (.tuple #[.int .u64 (pickD lo hi r : Nat), .int .i64 (pickK lo hi k)]) ∧ Below w.heap.size w w' := by
  have a1 : ((m : Int) == 9223372036854775808) = true := by rw [beq_iff_eq]; have := of_decide_eq_true hm63; omega
  have a2 : decide ((-1085 : Int) < e) = false := decide_eq_false (by omega)
  have a4 : decide ((-1085 : Int) ≤ e) = false := decide_eq_false (by omega)
  have a5 : (11 : Int) + (-1085 - e) = (z : Int) := by omega
  have a6 : e + (z : Int) = -1074 := by omega
  have ht2 : t < 9223372036854775808 := by
    rw [ht]
    exact Nat.lt_of_lt_of_le (Nat.pow_lt_pow_right (by omega) (show z - 1 < 63 by omega)) (by decide)
  have a7 : (2 : Int) ^ (z - 1) = (t : Int) := by rw [ht, Int.natCast_pow]; rfl
  have hq : m / 2 ^ z < 9223372036854775808 := by
    have : 2 ≤ 2 ^ z := Nat.le_trans (by decide) (Nat.pow_le_pow_right (by omega) (show 1 ≤ z by omega))
    rw [Nat.div_lt_iff_lt_mul (Nat.pow_pos (by omega))]
    omega
  have a3 : Go.bits .and .i64 ((m : Int) / 2 ^ z) 1 = (b : Int) := by
    have := and_i64 (m / 2 ^ z) 1 hq (by omega)
    rw [Nat.and_one_is_mod, ← hb, Int.natCast_ediv, pow_cast] at this
    exact this
  have hnu := fun W => nudge_up u1 b W hu1 hb1
  have hnd := fun W k hk => nudge_down u2 b k W hk hu2 hb1 hbu
  obtain ⟨v1, hv1⟩ : ∃ v1, u1 + b = v1 := ⟨_, rfl⟩
  obtain ⟨v2, hv2⟩ : ∃ v2, u2 - b = v2 := ⟨_, rfl⟩
  rw [hv1] at hnu hlo
  rw [hv2] at hnd hhi
  have hceil := fun W => ceil_calls v1 W (by omega)
  rw [hlo] at hceil
  have hfloor := fun W => floor_calls v2 W (by omega)
  rw [hhi] at hfloor
  have hround := fun W => round_calls u3 W (by omega)
  rw [hr] at hround
  have hlol : lo ≤ 1152921504606846977 := by omega
  have hhil : hi ≤ 1152921504606846976 := by omega
  have HCE := Lib.hid hceil
  have HFL := Lib.hid hfloor
  have HRO := Lib.hid hround
  have H1 := Lib.hid h1
  have H2 := Lib.hid h2
  have H3 := Lib.hid h3
  have HSN := Lib.hid hsn
  have HNU := Lib.hid hnu
  have HND := Lib.hid hnd
  have hl10 : ∀ (x : Int) (W : World), x = -1074 → Calls Tryz.prog 197 #[.int .i64 x] W fun r' w' => r' = .returned (.int .i64 k) ∧ W = w' := fun x W hx => by
    subst hx
    have h := log10Pow2_calls (-1074) W (by omega) (by omega)
    rw [hk] at h
    exact h
  have HL := Lib.hid hl10
  have her : -1137 ≤ e ∧ e ≤ -1086 := by omega
  obtain ⟨her1, her2⟩ := her
  have HZ := Lib.hid ht
  have hqi : (m : Int) / 2 ^ z < 9223372036854775808 := by rw [← pow_cast, ← Int.natCast_ediv]; exact Int.ofNat_lt.2 hq
  have hqi0 : (0 : Int) ≤ (m : Int) / 2 ^ z := by rw [← pow_cast, ← Int.natCast_ediv]; exact Int.natCast_nonneg _
  clear he ht hm63 hq
  clear hnu hnd hv1 hv2 hceil hfloor hround h1 h2 h3 hsn hlo hhi hr hu1 hu2 hu3 hbu hk hb hl10
  rcases zQ lo hi with ⟨hA, q1⟩ | ⟨hA, q1, hB, q2⟩ | ⟨hA, q1, hB, q2⟩
  all_goals
    go_enter Tryz.func202, Tryz.ntmps202
    go_wp2_with (first | (go_at_call 197; ((with_reducible refine (HL.out _ _ (by omega)).mono ?_); rintro e' w' ⟨rfl, rfl⟩)) | (go_at_call 226; ((with_reducible refine (HL.out _ _ (by omega)).mono ?_); rintro e' w' ⟨rfl, rfl⟩)) | (go_at_call 214; refine (log2Pow10_calls (-k) _ (by omega) (by omega)).mono ?_; rintro e' w' ⟨rfl, rfl⟩) | (go_at_call 215; refine (prescale_calls _ (-k) sn phi plo _ _ _ w HSN.out (by omega) (by omega) (by omega) (by omega) hw c0 c1).mono ?_; rintro e' w' ⟨rfl, rfl⟩) | (go_at_call 216; (first | refine (H1.out.out _ _ _ (by omega) (by go_simp) (by go_simp) (by go_simp)).mono ?_ | refine (H2.out.out _ _ _ (by omega) (by go_simp) (by go_simp) (by go_simp)).mono ?_ | refine (H3.out.out _ _ _ (by omega) (by go_simp) (by go_simp) (by go_simp)).mono ?_); rintro e' w' ⟨rfl, nq, rfl⟩) | (go_at_call 227; (first | ((with_reducible refine (HNU.out _).mono ?_); rintro e' w' ⟨rfl, rfl⟩) | ((with_reducible refine (HND.out _ _ (by omega)).mono ?_); rintro e' w' ⟨rfl, rfl⟩))) | (go_at_call 228; ((with_reducible refine (HCE.out _).mono ?_); rintro e' w' ⟨rfl, rfl⟩)) | (go_at_call 229; ((with_reducible refine (HFL.out _).mono ?_); rintro e' w' ⟨rfl, rfl⟩)) | (go_at_call 220; ((with_reducible refine (HRO.out _).mono ?_); rintro e' w' ⟨rfl, rfl⟩)))
    go_ret2
    refine ⟨?_, pw_below_drewN ((Below.refl _ _).alloc (Nat.le_refl _) _) _⟩
    unfold pickD pickK
  · rw [if_pos hA, if_pos hA, show k + 1 = -(-k - 1) by omega]
    rfl
  · rw [if_neg hA, if_neg hA, if_pos hB]
    first
    | rfl
    | (rw [Int.neg_neg]; done)
    | (simp; done)
  · rw [if_neg hA, if_neg hA, if_neg hB]
    first
    | rfl
    | (rw [Int.neg_neg]; done)
    | (simp; done)
end Go.Proofs.YtkjpelgdppmbjaaGreatDoor.SF
namespace Go.Proofs.YtkjpelgdppmbjaaGreatDoor.HF
open CQ HA HB HC HD SF US PN

theorem scaled_unit (y g h sn : Nat) (e e0 k : Int) (he : e + g + h = e0) (hs : (sn : Int) = -(e + lp (-k) + 3)) :
    (2 ^ g * y * U (-k)) * (2 ^ h * unitQ e0 k) = 4 * (y * unitT e0 k) * (2 ^ sn * 340282366920938463463374607431768211456 * V (-k)) := by
  unfold U V unitQ unitT
  rw [Int.neg_neg, show (340282366920938463463374607431768211456 : Nat) = 2 ^ 128 by decide, show (4 : Nat) = 2 ^ 2 by decide]
  have e1 : 2 ^ g * 2 ^ (127 - lp (-k)).toNat * 2 ^ h * 2 ^ (-e0).toNat = 2 ^ 2 * 2 ^ e0.toNat * 2 ^ sn * 2 ^ 128 * 2 ^ (lp (-k) - 127).toNat := by
    rw [← Nat.pow_add, ← Nat.pow_add, ← Nat.pow_add, ← Nat.pow_add, ← Nat.pow_add, ← Nat.pow_add, ← Nat.pow_add]
    congr 1
    omega
  generalize lp (-k) = l at *
  generalize (2 : Nat) ^ 128 = c at *
  generalize 2 ^ g = x1 at *
  generalize 2 ^ (127 - l).toNat = x2 at *
  generalize 2 ^ h = x3 at *
  generalize 2 ^ (-e0).toNat = x4 at *
  generalize 2 ^ e0.toNat = x5 at *
  generalize 2 ^ sn = x6 at *
  generalize 2 ^ (l - 127).toNat = x7 at *
  generalize (2 : Nat) ^ 2 = x8 at *
  calc x1 * y * (10 ^ (-k).toNat * x2) * (x3 * (x4 * 10 ^ k.toNat)) = y * 10 ^ (-k).toNat * 10 ^ k.toNat * (x1 * x2 * x3 * x4) := by ac_rfl
    _ = y * 10 ^ (-k).toNat * 10 ^ k.toNat * (x8 * x5 * x6 * c * x7) := by rw [e1]
    _ = _ := by ac_rfl
/-- A scaled value, by the number's own unit. -/
theorem usc_unit {e k : Int} {g X L : Nat} (hc : fmtB e (-k) g X L = true) {y h hi lo : Nat} {e0 : Int} (he : e + g + h = e0) (hL : L ≤ y) (hX : y < X) (h0 : 0 < y) (hxl : 2 ^ g * y < 18446744073709551616) (hlo : lo < 18446744073709551616) (hpm : (hi : Int) * 18446744073709551616 - lo = pm (-k)) :
    usc (2 ^ g * y) hi lo (sOf e (-k)) = unr (4 * (y * unitT e0 k)) (2 ^ h * unitQ e0 k) := by
  obtain ⟨a1, a2, _⟩ := fmt_near hc
  rw [fmt_unr hc rfl hL hX h0 hxl hlo hpm]
  refine unr_same (Nat.mul_pos (Nat.mul_pos (Nat.pow_pos (by omega)) (by omega)) (V_pos _)) (Nat.mul_pos (Nat.pow_pos (by omega)) (unitQ_pos _ _)) ?_
  exact scaled_unit y g h (sOf e (-k)) e e0 k he (by unfold sOf; omega)
theorem unr_lt {N Q c : Nat} (hQ : 0 < Q) (h : N < c * Q) : unr (4 * N) Q < 4 * c := by
  have h1 := (unr_four N Q hQ).1
  have h2 : N / Q < c := (Nat.div_lt_iff_lt_mul hQ).2 h
  omega
/-- The powers of ten beside the powers of two. -/
def powB (i : Nat) : Bool := Nat.ble (unitQ ((i : Int) - 1074) (l10 ((i : Int) - 1074))) (unitT ((i : Int) - 1074) (l10 ((i : Int) - 1074))) && Nat.blt (unitT ((i : Int) - 1074) (l10 ((i : Int) - 1074))) (10 * unitQ ((i : Int) - 1074) (l10 ((i : Int) - 1074)))
theorem pow_all : (List.range 2046).all powB = true := by decide +kernel
theorem pow_l10 {e : Int} (h1 : -1074 ≤ e) (h2 : e ≤ 971) : unitQ e (l10 e) ≤ unitT e (l10 e) ∧ unitT e (l10 e) < 10 * unitQ e (l10 e) := by
  have h := List.all_eq_true.1 pow_all (e + 1074).toNat (List.mem_range.2 (by omega))
  unfold powB at h
  rw [show (((e + 1074).toNat : Nat) : Int) - 1074 = e by omega] at h
  rw [Bool.and_eq_true, Nat.ble_eq, Nat.blt_eq] at h
  exact h
def loS (T Q : Nat) : Nat := ceilQ (18014398509481983 * T) (4 * Q)
def hiS (T Q : Nat) : Nat := 9007199254740993 * T / (2 * Q)
/-- The powers of two themselves, whose lower neighbour is nearer. -/
def skwB (i : Nat) : Bool := Nat.ble (4 * unitQ ((i : Int) - 1073) (skw ((i : Int) - 1073))) (3 * unitT ((i : Int) - 1073) (skw ((i : Int) - 1073))) && Nat.blt (3 * unitT ((i : Int) - 1073) (skw ((i : Int) - 1073))) (40 * unitQ ((i : Int) - 1073) (skw ((i : Int) - 1073))) &&
  (Nat.beq (loS (unitT ((i : Int) - 1073) (skw ((i : Int) - 1073))) (unitQ ((i : Int) - 1073) (skw ((i : Int) - 1073)))) (hiS (unitT ((i : Int) - 1073) (skw ((i : Int) - 1073))) (unitQ ((i : Int) - 1073) (skw ((i : Int) - 1073)))) || Nat.ble (loS (unitT ((i : Int) - 1073) (skw ((i : Int) - 1073))) (unitQ ((i : Int) - 1073) (skw ((i : Int) - 1073)))) (rneQ (4503599627370496 * unitT ((i : Int) - 1073) (skw ((i : Int) - 1073))) (unitQ ((i : Int) - 1073) (skw ((i : Int) - 1073)))))
theorem skw_all : (List.range 2045).all skwB = true := by decide +kernel
theorem pow_skw {e : Int} (h1 : -1073 ≤ e) (h2 : e ≤ 971) : 4 * unitQ e (skw e) ≤ 3 * unitT e (skw e) ∧ 3 * unitT e (skw e) < 40 * unitQ e (skw e) ∧ (loS (unitT e (skw e)) (unitQ e (skw e)) = hiS (unitT e (skw e)) (unitQ e (skw e)) ∨ loS (unitT e (skw e)) (unitQ e (skw e)) ≤ rneQ (4503599627370496 * unitT e (skw e)) (unitQ e (skw e))) := by
  have h := List.all_eq_true.1 skw_all (e + 1073).toNat (List.mem_range.2 (by omega))
  unfold skwB at h
  rw [show (((e + 1073).toNat : Nat) : Int) - 1073 = e by omega] at h
  rw [Bool.and_eq_true, Bool.and_eq_true, Nat.ble_eq, Nat.blt_eq, Bool.or_eq_true, Nat.beq_eq, Nat.ble_eq] at h
  exact ⟨h.1.1, h.1.2, h.2⟩
theorem grid_skew {y : Nat} {e k : Int} (hw : Word y 4503599627370496 e) (he : e ≠ -1074) (h1 : 4 * unitQ e k ≤ 3 * unitT e k) (h2 : 3 * unitT e k < 40 * unitQ e k) :
    Grid (Reads y) k (loS (unitT e k) (unitQ e k)) (hiS (unitT e k) (unitQ e k)) := by
  have hQ := unitQ_pos e k
  have hT := unitT_pos e k
  have hlo : ∀ D, loS (unitT e k) (unitQ e k) ≤ D ↔ 18014398509481983 * unitT e k ≤ D * (4 * unitQ e k) := fun D => ceil_le (by omega)
  have hhi : ∀ D, D ≤ hiS (unitT e k) (unitQ e k) ↔ D * (2 * unitQ e k) ≤ 9007199254740993 * unitT e k := fun D => le_floor (by omega)
  have hz : ∀ D, Reads y k D ↔ loS (unitT e k) (unitQ e k) ≤ D ∧ D ≤ hiS (unitT e k) (unitQ e k) := fun D => by
    rw [reads_zone hw, hlo, hhi]
    have hj : (4503599627370496 : Nat) = 4503599627370496 ∧ (e + 1074).toNat ≠ 0 := ⟨rfl, fun h => he (by have := hw.lo; omega)⟩
    have e1 : D * (4 * unitQ e k) = 4 * (D * unitQ e k) := by ac_rfl
    have e2 : D * (2 * unitQ e k) = 2 * (D * unitQ e k) := by ac_rfl
    rw [e1, e2]
    constructor
    · rintro ⟨z1, _, _, _, z5⟩
      have := z5 hj
      exact ⟨by omega, by omega⟩
    · rintro ⟨z1, z2⟩
      exact ⟨by omega, by omega, fun h => absurd hj h, by omega, fun _ => by omega⟩
  have ha := (hlo _).1 (Nat.le_refl _)
  have hb := (hhi _).1 (Nat.le_refl _)
  have hb2 : 9007199254740993 * unitT e k < (hiS (unitT e k) (unitQ e k) + 1) * (2 * unitQ e k) := by
    rcases Nat.lt_or_ge (9007199254740993 * unitT e k) ((hiS (unitT e k) (unitQ e k) + 1) * (2 * unitQ e k)) with h | h
    · exact h
    · have := (hhi _).2 h; omega
  have hle : loS (unitT e k) (unitQ e k) ≤ hiS (unitT e k) (unitQ e k) := by
    rw [hlo]
    have e1 : hiS (unitT e k) (unitQ e k) * (4 * unitQ e k) = 2 * (hiS (unitT e k) (unitQ e k) * (2 * unitQ e k)) := by rw [show 4 * unitQ e k = 2 * (2 * unitQ e k) by omega]; ac_rfl
    rw [Nat.add_mul, Nat.one_mul] at hb2
    omega
  generalize loS (unitT e k) (unitQ e k) = lo at *
  generalize hiS (unitT e k) (unitQ e k) = hi at *
  generalize unitT e k = T at *
  generalize unitQ e k = Q at *
  refine ⟨hz, hle, ?_, ?_⟩
  · rcases Nat.lt_or_ge hi (lo + 10) with h | h
    · exact h
    · exfalso
      have h3 := Nat.mul_le_mul_right (2 * Q) h
      rw [Nat.add_mul] at h3
      have e1 : lo * (4 * Q) = 2 * (lo * (2 * Q)) := by rw [show 4 * Q = 2 * (2 * Q) by omega]; ac_rfl
      omega
  · rcases Nat.eq_zero_or_pos lo with h | h
    · exfalso
      subst h
      rw [Nat.zero_mul] at ha
      omega
    · exact h
end Go.Proofs.YtkjpelgdppmbjaaGreatDoor.HF
namespace Go.Proofs.YtkjpelgdppmbjaaGreatDoor.SF
open Go.RowKit YtkjpelgdppmbjaaGreatDoorW.PrintWords CB CQ HA HB HC HD HF

/-- The place, the range's ends and the rounded figures of a number. -/
def kOf (m : Nat) (e : Int) : Int := if m = 4503599627370496 ∧ e ≠ -1074 then skw e else l10 e
def loF (m : Nat) (e : Int) : Nat := if m = 4503599627370496 ∧ e ≠ -1074 then loS (unitT e (kOf m e)) (unitQ e (kOf m e)) else loR m (unitT e (kOf m e)) (unitQ e (kOf m e))
def hiF (m : Nat) (e : Int) : Nat := if m = 4503599627370496 ∧ e ≠ -1074 then hiS (unitT e (kOf m e)) (unitQ e (kOf m e)) else hiR m (unitT e (kOf m e)) (unitQ e (kOf m e))
theorem the_norm {m : Nat} {e k : Int} (hs : ¬ (m = 4503599627370496 ∧ e ≠ -1074)) (hk : k = l10 e) : k = kOf m e ∧ loR m (unitT e k) (unitQ e k) = loF m e ∧ hiR m (unitT e k) (unitQ e k) = hiF m e := by
  have h1 : kOf m e = k := by unfold kOf; rw [if_neg hs, hk]
  unfold loF hiF
  rw [if_neg hs, if_neg hs, h1]
  exact ⟨rfl, rfl, rfl⟩
theorem the_skew {e k : Int} (he : e ≠ -1074) (hk : k = skw e) : k = kOf 4503599627370496 e ∧ loS (unitT e k) (unitQ e k) = loF 4503599627370496 e ∧ hiS (unitT e k) (unitQ e k) = hiF 4503599627370496 e := by
  have h1 : kOf 4503599627370496 e = k := by unfold kOf; rw [if_pos ⟨rfl, he⟩, hk]
  unfold loF hiF
  rw [if_pos ⟨rfl, he⟩, if_pos ⟨rfl, he⟩, h1]
  exact ⟨rfl, rfl, rfl⟩
/-- A number's range at a place, and its rounded figures. -/
structure Shape (y m : Nat) (e k : Int) (lo hi r : Nat) : Prop where mk ::
  grid : Grid (Reads y) k lo hi
  round : r = rneQ (m * unitT e k) (unitQ e k)
  rin : lo < hi → lo ≤ r ∧ r ≤ hi
  unit : unitQ e k ≤ unitT e k
  near : 3 * unitT e k < 40 * unitQ e k
  low : -330 ≤ k
  high : k ≤ 310
  top : m * unitT e k < 100000000000000000 * unitQ e k
  the : k = kOf m e ∧ lo = loF m e ∧ hi = hiF m e
theorem lo_of {m T Q : Nat} (hQ : 0 < Q) : (US.unr (4 * ((2 * m - 1) * T)) (2 * Q) + m % 2 + 3) / 4 = loR m T Q := by
  have hQ2 : 0 < 2 * Q := by omega
  unfold loR
  by_cases h : m % 2 = 1
  · rw [if_pos h, h]; exact unr_up _ _ hQ2
  · rw [if_neg h, show m % 2 = 0 by omega]; exact unr_ceil _ _ hQ2
theorem hi_of {m T Q : Nat} (hQ : 0 < Q) (hT : 0 < T) : m % 2 ≤ US.unr (4 * ((2 * m + 1) * T)) (2 * Q) ∧ (US.unr (4 * ((2 * m + 1) * T)) (2 * Q) - m % 2) / 4 = hiR m T Q := by
  have hQ2 : 0 < 2 * Q := by omega
  have hpos : 0 < (2 * m + 1) * T := Nat.mul_pos (by omega) hT
  obtain ⟨h1, h2⟩ := unr_down ((2 * m + 1) * T) (2 * Q) hQ2 hpos
  unfold hiR
  by_cases h : m % 2 = 1
  · rw [if_pos h, h]; exact ⟨h1, h2⟩
  · rw [if_neg h, show m % 2 = 0 by omega]
    exact ⟨Nat.zero_le _, (unr_four _ _ hQ2).1⟩
theorem r_of {m T Q : Nat} (hQ : 0 < Q) : (US.unr (4 * (2 * m * T)) (2 * Q) + 1 + US.unr (4 * (2 * m * T)) (2 * Q) / 4 % 2) / 4 = rneQ (m * T) Q := by
  rw [PN.unr_rne (2 * m * T) (2 * Q) (by omega), show 2 * m * T = m * T * 2 by ac_rfl, Nat.mul_comm 2 Q]
  exact rneQ_scale _ _ 2 (by omega)
theorem u_small {a T Q : Nat} (hQ : 0 < Q) (ha : a ≤ 18014398509481984) (h : 3 * T < 40 * Q) : US.unr (4 * (a * T)) (2 * Q) < 4611686018427387904 := by
  have h1 : a * T ≤ 18014398509481984 * T := Nat.mul_le_mul_right _ ha
  have := HF.unr_lt (N := a * T) (Q := 2 * Q) (c := 1152921504606846976) (by omega) (by omega)
  omega
theorem two11 : (2 : Nat) ^ 10 = 1024 := by decide
theorem shape_norm {y m : Nat} {e : Int} (hw : Word y m e) (hm : 4503599627370496 ≤ m) (hs : ¬ (m = 4503599627370496 ∧ e ≠ -1074)) (w : World) (B : Nat) (hB : B ≤ w.heap.size) (ht : Pow10 w B) :
    ∃ k lo hi r, Shape y m e k lo hi r ∧ Calls Tryz.prog 202 #[.int .u64 ((m * 2048 : Nat) : Int), .int .i64 (e - 11)] w fun r' w' => r' = .returned (.tuple #[.int .u64 (pickD lo hi r : Nat), .int .i64 (pickK lo hi k)]) ∧ Below w.heap.size w w' := by
  have hlt := hw.lt
  have he1 := hw.lo
  have he2 := hw.hi
  obtain ⟨k, hk⟩ : ∃ k, k = l10 e := ⟨_, rfl⟩
  have hk1 : -330 ≤ k ∧ k ≤ 310 := by rw [hk]; unfold l10; omega
  have hpw := pow_l10 he1 he2
  rw [← hk] at hpw
  have hc := List.all_eq_true.1 norm_all (e + 1074).toNat (List.mem_range.2 (by omega))
  unfold normB at hc
  rw [show (((e + 1074).toNat : Nat) : Int) - 1085 = e - 11 by omega, show e - 11 + 11 = e by omega, ← hk] at hc
  obtain ⟨s1, s2, p1, p2, _⟩ := fmt_near hc
  obtain ⟨phi, plo, c0, c1, hhi, hlo, hpm⟩ := ht.out (-k) p1 p2
  have hQ := unitQ_pos e k
  have hT := unitT_pos e k
  have hnear : 3 * unitT e k < 40 * unitQ e k := by omega
  have hu : ∀ a, 9007199254740991 ≤ a → a < 18014398509481984 → US.usc (2 ^ 10 * a) phi plo (sOf (e - 11) (-k)) = US.unr (4 * (a * unitT e k)) (2 * unitQ e k) := fun a h1 h2 => by
    have h := usc_unit hc (y := a) (h := 1) (e0 := e) (by omega) (by omega) (by omega) (by omega) (by rw [two11]; omega) hlo hpm
    rw [Nat.pow_one] at h
    exact h
  have hsc : ∀ a, 9007199254740991 ≤ a → a < 18014398509481984 → Scaled phi plo (sOf (e - 11) (-k)) (2 ^ 10 * a) (US.unr (4 * (a * unitT e k)) (2 * unitQ e k)) := fun a h1 h2 =>
    scaled_of (by rw [two11]; omega) hhi hlo (by unfold sOf; omega) (by
      have : (0 : Int) ≤ US.pm (-k) := Int.natCast_nonneg _
      omega) (hu a h1 h2)
  have g1 := hsc (2 * m - 1) (by omega) (by omega)
  have g2 := hsc (2 * m + 1) (by omega) (by omega)
  have g3 := hsc (2 * m) (by omega) (by omega)
  rw [two11] at g1 g2 g3
  rw [show 1024 * (2 * m - 1) = m * 2048 - 1024 by omega] at g1
  rw [show 1024 * (2 * m + 1) = m * 2048 + 1024 by omega] at g2
  rw [show 1024 * (2 * m) = m * 2048 by omega] at g3
  obtain ⟨b1, b2⟩ := hi_of (m := m) hQ hT
  have hgrid := grid_reg hw hs hpw.1 hpw.2
  have hrin := HD.round_in hw.ne hQ hpw.1
  refine ⟨k, loR m (unitT e k) (unitQ e k), hiR m (unitT e k) (unitQ e k), rneQ (m * unitT e k) (unitQ e k), ⟨hgrid, rfl, fun _ => hrin, hpw.1, hnear, hk1.1, hk1.2, by have := Nat.mul_le_mul_right (unitT e k) (show m ≤ 9007199254740991 by omega); omega, the_norm hs hk⟩, ?_⟩
  have hodd : m % 2 ≤ 1 := by omega
  by_cases hm63 : m = 4503599627370496
  · have he74 : e = -1074 := Classical.byContradiction fun h => hs ⟨hm63, h⟩
    refine short_least (m * 2048) _ _ (m % 2) _ _ _ _ _ _ phi plo (sOf (e - 11) (-k)) (e - 11) k w (by omega) (by omega) rfl rfl (by omega) (by rw [hk, show e - 11 + 11 = e by omega]) (by omega) (by omega) (by unfold sOf; omega)
      g1 g2 g3 (u_small hQ (by omega) hnear) (u_small hQ (by omega) hnear) (u_small hQ (by omega) hnear) hodd b1 (lo_of hQ) b2 (r_of hQ) (Nat.lt_of_lt_of_le ht.blk hB) c0 c1
  · refine short_norm (m * 2048) _ _ (m % 2) _ _ _ _ _ _ phi plo (sOf (e - 11) (-k)) (e - 11) k w (by omega) (by omega) (by omega) (by omega) rfl rfl (by omega) (by rw [hk, show e - 11 + 11 = e by omega]) (by omega) (by omega) (by unfold sOf; omega)
      g1 g2 g3 (u_small hQ (by omega) hnear) (u_small hQ (by omega) hnear) (u_small hQ (by omega) hnear) hodd b1 (lo_of hQ) b2 (r_of hQ) (Nat.lt_of_lt_of_le ht.blk hB) c0 c1
theorem shape_sub {y m z t : Nat} (hw : Word y m (-1074)) (hz1 : 12 ≤ z) (hz2 : z ≤ 63) (ht : t = 2 ^ (z - 1)) (hx1 : 9223372036854775808 ≤ m * 2 ^ z) (hx2 : m * 2 ^ z < 18446744073709551616) (hm : m < 4503599627370496) (w : World) (B : Nat) (hB : B ≤ w.heap.size) (hp : Pow10 w B) :
    ∃ k lo hi r, Shape y m (-1074) k lo hi r ∧ Calls Tryz.prog 202 #[.int .u64 ((m * 2 ^ z : Nat) : Int), .int .i64 (-1074 - (z : Int))] w fun r' w' => r' = .returned (.tuple #[.int .u64 (pickD lo hi r : Nat), .int .i64 (pickK lo hi k)]) ∧ Below w.heap.size w w' := by
  obtain ⟨k, hk⟩ : ∃ k, k = l10 (-1074) := ⟨_, rfl⟩
  have hk1 : -330 ≤ k ∧ k ≤ 310 := by rw [hk]; unfold l10; omega
  have hpw := pow_l10 (e := -1074) (by omega) (by omega)
  rw [← hk] at hpw
  have hc := List.all_eq_true.1 sub_all (z - 12) (List.mem_range.2 (by omega))
  unfold subB at hc
  rw [show -1086 - ((z - 12 : Nat) : Int) = -1074 - (z : Int) by omega, ← hk, show z - 12 + 11 = z - 1 by omega, show 53 - (z - 12) = 65 - z by omega, show 52 - (z - 12) = 64 - z by omega] at hc
  obtain ⟨s1, s2, p1, p2, _⟩ := fmt_near hc
  obtain ⟨phi, plo, c0, c1, hhi, hlo, hpm⟩ := hp.out (-k) p1 p2
  have hQ := unitQ_pos (-1074) k
  have hT := unitT_pos (-1074) k
  have hnear : 3 * unitT (-1074) k < 40 * unitQ (-1074) k := by omega
  have hpz : 2 ^ z = 2 * t := by rw [ht, show z = z - 1 + 1 by omega, Nat.pow_succ, Nat.add_sub_cancel]; omega
  have htp : 0 < t := by rw [ht]; exact Nat.pow_pos (by omega)
  have hy1 : 2 ^ (63 - z) ≤ m := by
    refine Nat.le_of_mul_le_mul_right ?_ (show 0 < 2 ^ z from Nat.pow_pos (by omega))
    rw [← Nat.pow_add, show 63 - z + z = 63 by omega]
    exact hx1
  have hy2 : m < 2 ^ (64 - z) := by
    refine Nat.lt_of_mul_lt_mul_right (a := 2 ^ z) ?_
    rw [← Nat.pow_add, show 64 - z + z = 64 by omega]
    exact hx2
  have e64 : 2 ^ (64 - z) = 2 * 2 ^ (63 - z) := by rw [show 64 - z = 63 - z + 1 by omega, Nat.pow_succ, Nat.mul_comm]
  have e65 : 2 ^ (65 - z) = 2 * 2 ^ (64 - z) := by rw [show 65 - z = 64 - z + 1 by omega, Nat.pow_succ, Nat.mul_comm]
  have hmt : m * 2 ^ z = 2 * m * t := by rw [hpz]; ac_rfl
  rw [hmt] at hx1 hx2 ⊢
  have hbd : ∀ a, a ≤ 2 * m + 1 → a * t < 18446744073709551616 := fun a ha => by
    have h1 : a * t ≤ (2 * m + 1) * t := Nat.mul_le_mul_right _ ha
    have h2 : (2 * m + 2) * t ≤ 2 ^ (65 - z) * t := Nat.mul_le_mul_right _ (by omega)
    have h3 : 2 ^ (65 - z) * t = 18446744073709551616 := by
      rw [ht, ← Nat.pow_add, show 65 - z + (z - 1) = 64 by omega]
    rw [Nat.add_mul] at h1 h2
    omega
  have hsc : ∀ a, 2 ^ (64 - z) - 1 ≤ a → a ≤ 2 * m + 1 → Scaled phi plo (sOf (-1074 - (z : Int)) (-k)) (a * t) (US.unr (4 * (a * unitT (-1074) k)) (2 * unitQ (-1074) k)) := fun a h1 h2 => by
    have h := usc_unit hc (y := a) (h := 1) (e0 := -1074) (by omega) h1 (by omega) (by have : 1 ≤ 2 ^ (63 - z) := Nat.pow_pos (by omega); omega) (by rw [← ht, Nat.mul_comm]; exact hbd a h2) hlo hpm
    rw [Nat.pow_one, ← ht, Nat.mul_comm t a] at h
    exact scaled_of (hbd a h2) hhi hlo (by unfold sOf; omega) (by
      have : (0 : Int) ≤ US.pm (-k) := Int.natCast_nonneg _
      omega) h
  have g1 := hsc (2 * m - 1) (by omega) (by omega)
  have g2 := hsc (2 * m + 1) (by omega) (by omega)
  have g3 := hsc (2 * m) (by omega) (by omega)
  have hm1 : 1 ≤ 2 * m := by have := hw.ne; omega
  rw [show (2 * m - 1) * t = 2 * m * t - t by rw [Nat.sub_mul, Nat.one_mul]] at g1
  rw [show (2 * m + 1) * t = 2 * m * t + t by rw [Nat.add_mul, Nat.one_mul]] at g2
  obtain ⟨b1, b2⟩ := hi_of (m := m) hQ hT
  have hgrid := grid_reg hw (fun h => h.2 rfl) hpw.1 hpw.2
  have hrin := HD.round_in hw.ne hQ hpw.1
  have hodd : m % 2 ≤ 1 := by omega
  have hmod : m % 2 = 2 * m * t / 2 ^ z % 2 := by
    rw [hpz, show 2 * m * t = m * (2 * t) by ac_rfl, Nat.mul_div_cancel _ (by omega)]
  have htm : t ≤ 2 * m * t := Nat.le_mul_of_pos_left _ (by omega)
  have htu : 2 * m * t + t < 18446744073709551616 := by
    have := hbd (2 * m + 1) (Nat.le_refl _)
    rw [Nat.add_mul, Nat.one_mul] at this
    exact this
  refine ⟨k, loR m (unitT (-1074) k) (unitQ (-1074) k), hiR m (unitT (-1074) k) (unitQ (-1074) k), rneQ (m * unitT (-1074) k) (unitQ (-1074) k), ⟨hgrid, rfl, fun _ => hrin, hpw.1, hnear, hk1.1, hk1.2, by have := Nat.mul_le_mul_right (unitT (-1074) k) (show m ≤ 9007199254740991 by omega); omega, the_norm (fun h => h.2 rfl) hk⟩, ?_⟩
  cases hc63 : decide (2 * m * t = 9223372036854775808) with
  | false =>
    exact short_sub (2 * m * t) _ _ (m % 2) _ _ _ _ _ _ phi plo (sOf (-1074 - (z : Int)) (-k)) (-1074 - (z : Int)) k w z t hz1 hz2 ht hx1 htm htu hc63 rfl rfl rfl hmod hk.symm (by omega) (by omega) (by unfold sOf; omega)
      g1 g2 g3 (u_small hQ (by omega) hnear) (u_small hQ (by omega) hnear) (u_small hQ (by omega) hnear) hodd b1 (lo_of hQ) b2 (r_of hQ) (Nat.lt_of_lt_of_le hp.blk hB) c0 c1
  | true =>
    exact short_sub63 (2 * m * t) _ _ (m % 2) _ _ _ _ _ _ phi plo (sOf (-1074 - (z : Int)) (-k)) (-1074 - (z : Int)) k w z t hz1 hz2 ht hx1 htm htu hc63 rfl rfl rfl hmod hk.symm (by omega) (by omega) (by unfold sOf; omega)
      g1 g2 g3 (u_small hQ (by omega) hnear) (u_small hQ (by omega) hnear) (u_small hQ (by omega) hnear) hodd b1 (lo_of hQ) b2 (r_of hQ) (Nat.lt_of_lt_of_le hp.blk hB) c0 c1
theorem shape_skew {y : Nat} {e : Int} (hw : Word y 4503599627370496 e) (he : e ≠ -1074) (w : World) (B : Nat) (hB : B ≤ w.heap.size) (ht : Pow10 w B) :
    ∃ k lo hi r, Shape y 4503599627370496 e k lo hi r ∧ Calls Tryz.prog 202 #[.int .u64 ((9223372036854775808 : Nat) : Int), .int .i64 (e - 11)] w fun r' w' => r' = .returned (.tuple #[.int .u64 (pickD lo hi r : Nat), .int .i64 (pickK lo hi k)]) ∧ Below w.heap.size w w' := by
  have he1 := hw.lo
  have he2 := hw.hi
  obtain ⟨k, hk⟩ : ∃ k, k = skw e := ⟨_, rfl⟩
  have hk1 : -330 ≤ k ∧ k ≤ 310 := by rw [hk]; unfold skw; omega
  obtain ⟨q1, q2, q3⟩ := pow_skw (e := e) (by omega) he2
  rw [← hk] at q1 q2 q3
  have hc := List.all_eq_true.1 skew_all (e + 1073).toNat (List.mem_range.2 (by omega))
  unfold skewB at hc
  rw [show (((e + 1073).toNat : Nat) : Int) - 1084 = e - 11 by omega, show e - 11 + 11 = e by omega, ← hk] at hc
  obtain ⟨s1, s2, p1, p2, _⟩ := fmt_near hc
  obtain ⟨phi, plo, c0, c1, hhi, hlo, hpm⟩ := ht.out (-k) p1 p2
  have hQ := unitQ_pos e k
  have hT := unitT_pos e k
  have t9 : (2 : Nat) ^ 9 = 512 := by decide
  have t54 : (2 : Nat) ^ 54 = 18014398509481984 := by decide
  have hsc : ∀ a, 18014398509481983 ≤ a → a < 18014398509481987 → Scaled phi plo (sOf (e - 11) (-k)) (2 ^ 9 * a) (US.unr (4 * (a * unitT e k)) (4 * unitQ e k)) := fun a h1 h2 => by
    have h := usc_unit hc (y := a) (h := 2) (e0 := e) (by omega) (by rw [t54]; omega) (by rw [t54]; omega) (by omega) (by rw [t9]; omega) hlo hpm
    exact scaled_of (by rw [t9]; omega) hhi hlo (by unfold sOf; omega) (by
      have : (0 : Int) ≤ US.pm (-k) := Int.natCast_nonneg _
      omega) h
  have g1 := hsc 18014398509481983 (by omega) (by omega)
  have g2 := hsc 18014398509481986 (by omega) (by omega)
  have g3 := hsc 18014398509481984 (by omega) (by omega)
  rw [t9] at g1 g2 g3
  have hsm : ∀ a, a ≤ 18014398509481986 → US.unr (4 * (a * unitT e k)) (4 * unitQ e k) < 4611686018427387904 := fun a ha => by
    have h1 : a * unitT e k ≤ 18014398509481986 * unitT e k := Nat.mul_le_mul_right _ ha
    have := HF.unr_lt (N := a * unitT e k) (Q := 4 * unitQ e k) (c := 1152921504606846976) (by omega) (by omega)
    omega
  have hgrid := grid_skew hw he q1 q2
  have hmid := mid_round (A := 4503599627370496 * unitT e k) hQ
  have hr : (US.unr (4 * (18014398509481984 * unitT e k)) (4 * unitQ e k) + 1 + US.unr (4 * (18014398509481984 * unitT e k)) (4 * unitQ e k) / 4 % 2) / 4 = rneQ (4503599627370496 * unitT e k) (unitQ e k) := by
    rw [PN.unr_rne (18014398509481984 * unitT e k) (4 * unitQ e k) (by omega), show 18014398509481984 * unitT e k = 4503599627370496 * unitT e k * 4 by omega, Nat.mul_comm 4 (unitQ e k)]
    exact rneQ_scale _ _ 4 (by omega)
  have hhiS : (US.unr (4 * (18014398509481986 * unitT e k)) (4 * unitQ e k) - 0) / 4 = hiS (unitT e k) (unitQ e k) := by
    rw [Nat.sub_zero, (unr_four _ _ (by omega)).1]
    unfold hiS
    rw [show 18014398509481986 * unitT e k = 2 * (9007199254740993 * unitT e k) by omega, show 4 * unitQ e k = 2 * (2 * unitQ e k) by omega]
    exact Nat.mul_div_mul_left _ _ (by omega)
  have hloS : (US.unr (4 * (18014398509481983 * unitT e k)) (4 * unitQ e k) + 0 + 3) / 4 = loS (unitT e k) (unitQ e k) := unr_ceil _ _ (by omega)
  have hrhi : rneQ (4503599627370496 * unitT e k) (unitQ e k) ≤ hiS (unitT e k) (unitQ e k) := by
    have := hmid.lo
    refine (le_floor (by omega)).2 ?_
    rw [show rneQ (4503599627370496 * unitT e k) (unitQ e k) * (2 * unitQ e k) = 2 * (rneQ (4503599627370496 * unitT e k) (unitQ e k) * unitQ e k) by ac_rfl]
    omega
  refine ⟨k, loS (unitT e k) (unitQ e k), hiS (unitT e k) (unitQ e k), rneQ (4503599627370496 * unitT e k) (unitQ e k), ⟨hgrid, rfl, fun h => ⟨by rcases q3 with q3 | q3 <;> omega, hrhi⟩, by omega, q2, hk1.1, hk1.2, by omega, the_skew he hk⟩, ?_⟩
  exact short_skew 9223372036854775808 _ _ 0 _ _ _ _ _ _ phi plo (sOf (e - 11) (-k)) (e - 11) k w rfl (by omega) (by omega) (by omega) (by omega) rfl (by rw [hk, show e - 11 + 11 = e by omega]) (by omega) (by omega) (by unfold sOf; omega)
    g1 g2 g3 (hsm _ (by omega)) (hsm _ (by omega)) (hsm _ (by omega)) (by omega) (by omega) hloS hhiS hr (Nat.lt_of_lt_of_le ht.blk hB) c0 c1
/-- What shortFloat tells. -/
theorem short_calls {y m s : Nat} {e : Int} (hw : Word y m e) (hs1 : 9223372036854775808 ≤ m * 2 ^ s) (hs2 : m * 2 ^ s < 18446744073709551616) (w : World) (B : Nat) (hB : B ≤ w.heap.size) (ht : Pow10 w B) :
    ∃ k lo hi r, Shape y m e k lo hi r ∧ Calls Tryz.prog 202 #[.int .u64 ((m * 2 ^ s : Nat) : Int), .int .i64 (e - (s : Int))] w fun r' w' => r' = .returned (.tuple #[.int .u64 (pickD lo hi r : Nat), .int .i64 (pickK lo hi k)]) ∧ Below w.heap.size w w' := by
  have hlt := hw.lt
  have hne := hw.ne
  have hs63 : s ≤ 63 := by
    rcases Nat.lt_or_ge 63 s with h | h
    · exfalso
      have h1 : 2 ^ 64 ≤ 2 ^ s := Nat.pow_le_pow_right (by omega) h
      have h2 : 1 * 2 ^ s ≤ m * 2 ^ s := Nat.mul_le_mul_right _ (by omega)
      have h3 : (2 : Nat) ^ 64 = 18446744073709551616 := by decide
      omega
    · exact h
  by_cases hm : m < 4503599627370496
  · have he : e = -1074 := Classical.byContradiction fun h => by have := hw.full h; omega
    subst he
    have hs12 : 12 ≤ s := by
      rcases Nat.lt_or_ge s 12 with h | h
      · exfalso
        have h1 : m * 2 ^ s ≤ 4503599627370495 * 2 ^ 11 := Nat.mul_le_mul (by omega) (Nat.pow_le_pow_right (by omega) (by omega))
        omega
      · exact h
    exact shape_sub hw hs12 hs63 rfl hs1 hs2 hm w B hB ht
  · have hs11 : s = 11 := by
      rcases Nat.lt_trichotomy s 11 with h | h | h
      · exfalso
        have h1 : m * 2 ^ s ≤ 9007199254740991 * 2 ^ 10 := Nat.mul_le_mul (by omega) (Nat.pow_le_pow_right (by omega) (by omega))
        omega
      · exact h
      · exfalso
        have h1 : 4503599627370496 * 2 ^ 12 ≤ m * 2 ^ s := Nat.mul_le_mul (by omega) (Nat.pow_le_pow_right (by omega) (by omega))
        omega
    subst hs11
    by_cases hk : m = 4503599627370496 ∧ e ≠ -1074
    · obtain ⟨rfl, he⟩ := hk
      exact shape_skew hw he w B hB ht
    · exact shape_norm hw (by omega) hk w B hB ht
open FT Go.«Sort»

/-- A number's figures. -/
def decF (u : Nat) : List Nat := if _h : u < 10 then [u] else decF (u / 10) ++ [u % 10]
termination_by u
decreasing_by omega
theorem decF_small {u : Nat} (h : u < 10) : decF u = [u] := by rw [decF, dif_pos h]
theorem decF_big {u : Nat} (h : ¬ u < 10) : decF u = decF (u / 10) ++ [u % 10] := by rw [decF, dif_neg h]
theorem decF_all (u : Nat) : (decF u).length = Lib.nDigits u ∧ Lib.decDigits u = figB (decF u) ∧ numL (decF u) = u ∧ (∀ d ∈ decF u, d < 10) ∧ (decF u).getD 0 0 = u / 10 ^ ((decF u).length - 1) ∧ 10 ^ ((decF u).length - 1) ≤ max u 1 := by
  induction u using Nat.strongRecOn with
  | _ u ih =>
    by_cases h : u < 10
    · rw [decF_small h, Lib.nDigits_small h, Lib.decDigits, dif_pos h]
      refine ⟨rfl, rfl, ?_, by simp; exact h, by simp, ?_⟩
      · show numL ([] ++ [u]) = u
        rw [numL_snoc]; show 0 * 10 + u = u; omega
      · simp; omega
    · obtain ⟨h1, h2, h3, h4, h5, h6⟩ := ih (u / 10) (by omega)
      have hp := Lib.nDigits_pos (u / 10)
      rw [decF_big h, Lib.nDigits_big h, Lib.decDigits, dif_neg h, h2]
      have hl : (decF (u / 10) ++ [u % 10]).length = (decF (u / 10)).length + 1 := by simp
      refine ⟨by rw [hl, h1], ?_, ?_, ?_, ?_, ?_⟩
      · unfold figB; rw [List.map_append]; rfl
      · rw [numL_snoc, h3]; omega
      · intro d hd
        rcases List.mem_append.1 hd with hd | hd
        · exact h4 d hd
        · rw [List.mem_singleton.1 hd]; exact Nat.mod_lt _ (by omega)
      · rw [getD_left _ _ (by omega), h5, hl, Nat.add_sub_cancel, Nat.div_div_eq_div_mul, ← Nat.pow_succ', show ((decF (u / 10)).length - 1).succ = (decF (u / 10)).length by omega]
      · rw [hl, Nat.add_sub_cancel, show (decF (u / 10)).length = (decF (u / 10)).length - 1 + 1 by omega, Nat.pow_succ]
        rw [Nat.max_eq_left (by omega)] at h6 ⊢
        omega
theorem decF_tops {u : Nat} (hu : u ≠ 0) (h64 : u < 18446744073709551616) : Tops u (Lib.nDigits u) 0 (decF u) ∧ u < 10 ^ Lib.nDigits u ∧ (Lib.nDigits u = 0 ∨ 10 ^ (Lib.nDigits u - 1) ≤ u) ∧ Lib.nDigits u ≤ 20 := by
  obtain ⟨h1, h2, h3, h4, h5, h6⟩ := decF_all u
  refine ⟨⟨by rw [h1]; rfl, by rw [h3, Nat.pow_zero, Nat.div_one], fun _ => by rw [← h1]; exact h5⟩, Lib.lt_pow_nDigits u, .inr ?_, ?_⟩
  · rw [← h1]
    rw [Nat.max_eq_left (by omega)] at h6
    exact h6
  · rw [← h1]
    rcases Nat.lt_or_ge 20 (decF u).length with h | h
    · exfalso
      have h7 : 10 ^ 20 ≤ 10 ^ ((decF u).length - 1) := Nat.pow_le_pow_right (by omega) (by omega)
      rw [Nat.max_eq_left (by omega)] at h6
      omega
    · exact h
/-- A row of 32 bytes. -/
structure Row32 (w : World) (B : Nat) : Prop where mk ::
  cell : ∀ i, i < 32 → w.cell? ⟨B, i, none⟩ = some (.int .u8 0)
  free : ∀ i, i < 32 → w.frozen? ⟨B, i, none⟩ = false
/-- Figures that stand at a row's start. -/
structure Figs32 (w : World) (B : Nat) (ds : List Nat) : Prop where mk ::
  cell : ∀ i, i < ds.length → w.cell? ⟨B, i, none⟩ = some (.int .u8 ((48 + ds.getD i 0 : Nat) : Int))
theorem getD_figs {u j : Nat} (h : j < (decF u).length) : ((Lib.decDigits u)[j]?.map fun b : UInt8 => (b.toNat : Int)) = some ((48 + (decF u).getD j 0 : Nat) : Int) := by
  obtain ⟨_, h2, _, h4, _⟩ := decF_all u
  rw [h2]
  unfold figB
  rw [List.getElem?_map, List.getElem?_eq_getElem h, List.getD_eq_getElem?_getD, List.getElem?_eq_getElem h]
  show some (((UInt8.ofNat (48 + (decF u)[j])).toNat : Nat) : Int) = some _
  rw [figB_toNat (h4 _ (List.getElem_mem h))]
  rfl
/-- formatBase10 lays a number's figures. -/
theorem fmt10_calls (B u : Nat) (w : World) (hr : Row32 w B) (hu : u ≠ 0) (h64 : u < 18446744073709551616) :
    Calls Tryz.prog 230 #[.slice (some ⟨B, 0, none⟩) (Lib.nDigits u) 32, .int .u64 u] w fun e w' => e = .returned (.tuple #[]) ∧ Figs32 w' B (decF u) ∧ Below B w w' := by
  obtain ⟨h1, h2, _, _, _, _⟩ := decF_all u
  obtain ⟨_, t2, _, t4⟩ := decF_tops hu h64
  have hH : Holds (fun (b : UInt8) => Value.int .u8 (b.toNat : Int)) w B 0 (Array.replicate (Lib.nDigits u) (0 : UInt8)) := fun j hj => by
    have hj' : j < Lib.nDigits u := by simpa using hj
    rw [Nat.zero_add]
    refine ⟨?_, hr.free j (by omega)⟩
    rw [hr.cell j (by omega), getElem!_pos _ j hj]
    simp
  have hc := Tryz.internal_strconv_formatBase10 B 0 32 u (Array.replicate (Lib.nDigits u) (0 : UInt8)) w hH (by simpa using t2) h64 (by simp; omega)
  rw [Array.size_replicate] at hc
  refine hc.mono ?_
  rintro e w' ⟨rfl, n, v', dk, rfl, hinv⟩
  refine ⟨rfl, ⟨fun i hi => ?_⟩, pw_below_drewN (Lib.below_putRow (q := 0) (Below.refl _ _) (Nat.le_refl _)) n⟩
  have hs := hinv.size
  have hcell := cell?_putRow (fun (b : UInt8) => Value.int .u8 (b.toNat : Int)) w B 0 _ dk hH (by rw [hs, Array.size_replicate]) i (by rw [hs, ← h1]; exact hi)
  rw [Nat.zero_add] at hcell
  have hn := Lib.row_is_numeral hinv i (by rw [Lib.decDigits_length, ← h1]; exact hi)
  have hg := getD_figs hi
  rw [List.getElem?_eq_getElem (by rw [Lib.decDigits_length, ← h1]; exact hi), hn] at hg
  show (putRow (fun (b : UInt8) => Value.int .u8 (b.toNat : Int)) w B 0 dk).cell? ⟨B, i, none⟩ = _
  rw [hcell]
  exact congrArg some (congrArg (Value.int .u8) (Option.some.inj hg))
theorem take_snoc {l : List Nat} {t : Nat} (h : t < l.length) : l.take (t + 1) = l.take t ++ [l.getD t 0] := by
  rw [List.take_add_one, List.getD_eq_getElem?_getD, List.getElem?_eq_getElem h]
  rfl
set_option maxHeartbeats 4000000 in
set_option maxRecDepth 100000 in
theorem setDigits_calls (B u : Nat) (p : Int) (w : World) (hr : Row32 w B) (hu : u ≠ 0) (h64 : u < 18446744073709551616) (hp1 : -1000 ≤ p) (hp2 : p ≤ 1000) :
    Calls Tryz.prog 195 #[.slice (some ⟨B, 0, none⟩) 32 32, .int .u64 u, .int .i64 p, .int .i64 (Lib.nDigits u)] w fun e w' => e = .returned (.tuple #[.int .i64 ((Lib.nDigits u : Nat) + p), .int .i64 (strip (decF u)).length]) ∧ Figs32 w' B (decF u) ∧ Below B w w' := by
  obtain ⟨h1, _, _, h4, _, _⟩ := decF_all u
  obtain ⟨_, _, _, t4⟩ := decF_tops hu h64
  have hpos := Lib.nDigits_pos u
  have HF := Lib.hid (fmt10_calls B u w hr hu h64)
  have HL := Lib.hid h1
  have H4 := Lib.hid h4
  clear hr h1 h4
  generalize Lib.nDigits u = K at *
  go_enter Tryz.func195, Tryz.ntmps195
  go_wp2_with (go_at_call 230; ((with_reducible refine HF.out.mono ?_); rintro e1 w1 ⟨rfl, hfig, hbel⟩; have HG := Lib.hid (And.intro hfig hbel); clear hfig hbel))
  go_loopw [3] (fun v wr => ∃ t : Nat, v = .int .i64 t ∧ Hid (t ≤ K ∧ strip ((decF u).take t) = strip (decF u) ∧ wr = w1)) (fun v _ => (intOf v).toNat)
  case atStart => exact ⟨K, rfl, Lib.hid ⟨Nat.le_refl _, by rw [← HL.out, List.take_length], rfl⟩⟩
  case round =>
    obtain ⟨t, rfl, HR⟩ := hrel
    obtain rfl := HR.out.2.2
    cases t with
    | zero =>
      have hend : (strip (decF u)).length = 0 := by rw [← HR.out.2.1, List.take_zero]; rfl
      obtain ⟨hfig, hbel⟩ := HG.out
      clear HR
      go_wp2
      go_ret2
      exact ⟨by rw [hend]; rfl, hfig, hbel⟩
    | succ t =>
      have htK := HR.out.1
      have hlt : t < (decF u).length := by rw [HL.out]; omega
      have c1 : wr.cell? ⟨B, t, none⟩ = some (.int .u8 ((48 + (decF u).getD t 0 : Nat) : Int)) := HG.out.1.cell t hlt
      have hst := HR.out.2.1
      rw [take_snoc hlt] at hst
      have hd10 : (decF u).getD t 0 < 10 := by
        rw [List.getD_eq_getElem?_getD, List.getElem?_eq_getElem hlt]
        exact H4.out _ (List.getElem_mem hlt)
      generalize (decF u).getD t 0 = d at *
      by_cases h0 : d = 0
      · subst h0
        rw [strip_zero] at hst
        have HS := Lib.hid hst
        have c2 : wr.cell? ⟨B, t, none⟩ = some (.int .u8 48) := c1
        clear hst HR hlt hd10 c1
        go_wp2
        go_roundw
        case rel => exact ⟨t, rfl, Lib.hid ⟨by omega, HS.out, by first | trivial | rfl⟩⟩
        case measure => simp [intOf]
      · rw [strip_pos _ _ h0] at hst
        have hend : (strip (decF u)).length = t + 1 := by
          rw [← hst, List.length_append, List.length_take, Nat.min_eq_left (by omega)]; rfl
        have c2 : (((48 + d : Nat) : Int) == 48) = false := by rw [beq_eq_false_iff_ne]; omega
        have HE := Lib.hid hend
        obtain ⟨hfig, hbel⟩ := HG.out
        clear hst HR hlt hd10 hend
        go_wp2
        go_ret2
        exact ⟨by rw [HE.out]; first | rfl | simp, hfig, hbel⟩
open YtkjpelgdppmbjaaGreatDoorW.PrintLast YtkjpelgdppmbjaaGreatDoorW.PrintMore FE
attribute [local go_sem] max2_int min2_int max_two min_two max_three min_three max_four min_four   -- for this text's walks alone

/-- What FormatFloat asks of the world, for the fewest figures: the two tables of powers of ten. -/
structure Tome (w : World) (B : Nat) : Prop where mk ::
  pow : Pow10 w B
  tab : Lib.TabBelow Tryz.prog B w "internal/strconv.uint64pow10" .u64 Lib.pow10Tab
theorem Tome.below {w w' : World} {B : Nat} (h : Tome w B) (hb : Below B w w') : Tome w' B :=
  ⟨h.pow.below hb, fun w2 h2 => h.tab w2 (hb.trans h2)⟩
def zeros32 : Array Value := #[.int .u8 0, .int .u8 0, .int .u8 0, .int .u8 0, .int .u8 0, .int .u8 0, .int .u8 0, .int .u8 0, .int .u8 0, .int .u8 0, .int .u8 0, .int .u8 0, .int .u8 0, .int .u8 0, .int .u8 0, .int .u8 0, .int .u8 0, .int .u8 0, .int .u8 0, .int .u8 0, .int .u8 0, .int .u8 0, .int .u8 0, .int .u8 0, .int .u8 0, .int .u8 0, .int .u8 0, .int .u8 0, .int .u8 0, .int .u8 0, .int .u8 0, .int .u8 0]
theorem zero32 : zeros32 = Array.replicate 32 (.int .u8 0) := rfl
theorem row32_new {w w1 : World} {t : Nat} (hb : Below (w.alloc (.cells zeros32 t)).heap.size (w.alloc (.cells zeros32 t)) w1) : Row32 w1 w.heap.size := by
  have hlt : w.heap.size < (w.alloc (.cells zeros32 t)).heap.size := by
    show w.heap.size < (w.heap.push _).size
    rw [Array.size_push]; omega
  have hbl := hb.block w.heap.size hlt
  refine ⟨fun i hi => ?_, fun i hi => ?_⟩
  · have h1 : w1.cell? ⟨w.heap.size, i, none⟩ = (w.alloc (.cells zeros32 t)).cell? ⟨w.heap.size, i, none⟩ := by unfold World.cell?; rw [hbl]
    rw [h1, blk_cell (blk_new w _) i]
    rw [zero32, Array.getElem?_replicate, if_pos hi]
  · have h1 : w1.frozen? ⟨w.heap.size, i, none⟩ = (w.alloc (.cells zeros32 t)).frozen? ⟨w.heap.size, i, none⟩ := by unfold World.frozen?; rw [hbl]
    rw [h1]
    exact blk_frozen (blk_new w _) i
theorem Row32.drewN {w : World} {B : Nat} (h : Row32 w B) (n : Nat) : Row32 (w.drewN n) B := ⟨h.cell, h.free⟩
/-- What fmtEFG is told, for the fewest figures. -/
structure Fmts (u : Value) (R : Value → World → Prop) (w : World) (V : Nat) (p : Int) : Prop where mk ::
  out : ∀ w1, Figs32 w1 w.heap.size (decF V) → Below w.heap.size w w1 →
    Calls Tryz.prog 192 #[u, .bool false, .slice (some ⟨w.heap.size, 0, none⟩) 32 32, .int .i64 ((Lib.nDigits V : Nat) + p), .int .i64 (strip (decF V)).length, .int .i64 (((strip (decF V)).length : Int) - 1), .int .u8 101, .bool true] w1 fun e w' => ∃ v, e = .returned v ∧ R v w'
set_option maxHeartbeats 8000000 in
set_option maxRecDepth 100000 in
theorem short_way_norm (x F m X V L : Nat) (p e : Int) (u : Value) (w : World) (R : Value → World → Prop)
    (hx : x = F * 4503599627370496 + m) (hF1 : 1 ≤ F) (hF2 : F < 2047) (hm : m < 4503599627370496) (he : e = (F : Int) - 1075) (hL : Lib.bitLen (m + 4503599627370496) = L) (hL1 : 1 ≤ L) (hL2 : L ≤ 64) (hX : (m + 4503599627370496) * 2 ^ (64 - L) = X) (hX2 : X < 18446744073709551616)
    (hV : V ≠ 0) (hV64 : V < 18446744073709551616) (hp1 : -1000 ≤ p) (hp2 : p ≤ 1000) (hn1 : 1 ≤ (strip (decF V)).length) (hn2 : (strip (decF V)).length ≤ 20)
    (htab : ∀ W, Below w.heap.size w W → Lib.TabIs Tryz.prog W "internal/strconv.uint64pow10" .u64 Lib.pow10Tab)
    (hsf : ∀ W, Below w.heap.size w W → Calls Tryz.prog 202 #[.int .u64 X, .int .i64 (e - (64 - (L : Int)))] W fun r' w' => r' = .returned (.tuple #[.int .u64 V, .int .i64 p]) ∧ Below W.heap.size W w')
    (hf : Fmts u R w V p) :
    Calls Tryz.prog 165 #[u, .float .f64 x, .int .u8 101, .int .i64 (-1)] w fun e w' => ∃ v, e = .returned v ∧ R v w' := by
  have hb := bits_in x
  have e1 := exp_field (x := x) (F := F) (by omega) (by omega)
  have e2 := low_and x (by omega)
  rw [show x % 4503599627370496 = m by omega] at e2
  have e4 : ((x : Int) / 9223372036854775808 != 0) = false := by rw [bne_eq_false_iff_eq]; omega
  have e5 := mant_top hm
  have e6 : (((m + 4503599627370496 : Nat) : Int) == 0) = false := by rw [beq_eq_false_iff_ne]; omega
  have e7 : ((F : Int) == 2047) = false := by rw [beq_eq_false_iff_ne]; omega
  have e8 : ((F : Int) == 0) = false := by rw [beq_eq_false_iff_ne]; omega
  have hxl : x < 9218868437227405312 := by omega
  have hM64 : m + 4503599627370496 < 18446744073709551616 := by omega
  generalize hM : m + 4503599627370496 = M at *
  have hlen := fun W => (Tryz.bits_Len64 (M : Int) W (by omega) (by omega)).mono fun e w' h => (⟨h.1, h.2.symm⟩ : _ ∧ W = w')
  rw [Int.toNat_natCast, hL] at hlen
  have HLEN := Lib.hid hlen
  have hsh : IntKind.u64.wrap ((M : Int) * 2 ^ (64 - L)) = (X : Int) := by
    have : (M : Int) * 2 ^ (64 - L) = (X : Int) := by rw [← hX, Int.natCast_mul, pow_cast]
    rw [this, wu64]; omega
  have hsf2 : ∀ (k : Int) W, k = e - (64 - (L : Int)) → Below w.heap.size w W → Calls Tryz.prog 202 #[.int .u64 X, .int .i64 k] W fun r' w' => r' = .returned (.tuple #[.int .u64 V, .int .i64 p]) ∧ Below W.heap.size W w' := fun k W hk hb => by
    subst hk; exact hsf W hb
  have hsf3 : ∀ (nq : Nat) (k : Int), k = e - (64 - (L : Int)) → Calls Tryz.prog 202 #[.int .u64 X, .int .i64 k] ((w.drewN nq).alloc (.cells zeros32 201)) fun r' w' => r' = .returned (.tuple #[.int .u64 V, .int .i64 p]) ∧ Hid (Row32 w'.drew w.heap.size ∧ Below w.heap.size w w'.drew) := fun nq k hk => by
    have hbw : Below w.heap.size w ((w.drewN nq).alloc (.cells zeros32 201)) := (pw_below_drewN (Below.refl _ w) nq).alloc (Nat.le_refl _) _
    refine (hsf2 k _ hk hbw).mono ?_
    rintro r' w' ⟨rfl, hb1⟩
    have hsz : w.heap.size ≤ ((w.drewN nq).alloc (.cells zeros32 201)).heap.size := hbw.size
    exact ⟨rfl, Lib.hid ⟨(row32_new (w := w.drewN nq) hb1).drewN 1, pw_below_drewN (hbw.trans (hb1.mono hsz)) 1⟩⟩
  unfold zeros32 at hsf3
  have HSF := Lib.hid hsf3
  have HF := Lib.hid hf
  have HTAB := Lib.hid htab
  have HE := Lib.hid he
  clear hlen hsf hsf2 hsf3 hf htab hX hx hL hM he
  go_enter Tryz.func165, Tryz.ntmps165
  go_wp2
  go_quiet (fail)
  go_wp2_with (first | (go_at_call 193; ((with_reducible refine (HLEN.out _).mono ?_); rintro e' w' ⟨rfl, rfl⟩)) | (go_at_call 202; ((with_reducible refine (HSF.out _ _ (by have := HE.out; omega)).mono ?_); rintro e' w1 ⟨rfl, hb1⟩)))
  have HROW := Lib.hid hb1.out.1
  have HBEL := Lib.hid hb1.out.2
  clear hb1
  go_region_with (first | (go_at_call 196; refine (Tryz.internal_strconv_numDigits V (by omega) hV64 _ (HTAB.out _ HBEL.out)).mono ?_; rintro e' w' ⟨rfl, rfl⟩) | (go_at_call 195; refine (setDigits_calls w.heap.size V p _ HROW.out hV hV64 hp1 hp2).mono ?_; rintro e' w2 ⟨rfl, hfig, hb2⟩; have HC := Lib.hid (HF.out.out w2 hfig (HBEL.out.trans hb2)); clear hfig hb2))
  all_goals go_wp2_with (go_at_call 192; ((with_reducible refine HC.out.mono ?_); rintro e' w4 ⟨v, rfl, hR⟩))
  all_goals go_ret
  all_goals exact ⟨v, rfl, hR⟩
set_option maxHeartbeats 8000000 in
set_option maxRecDepth 100000 in
theorem short_way_sub (x X V L : Nat) (p e : Int) (u : Value) (w : World) (R : Value → World → Prop)
    (hx0 : x ≠ 0) (hx : x < 4503599627370496) (he : e = -1074) (hL : Lib.bitLen x = L) (hL1 : 1 ≤ L) (hL2 : L ≤ 64) (hX : x * 2 ^ (64 - L) = X) (hX2 : X < 18446744073709551616)
    (hV : V ≠ 0) (hV64 : V < 18446744073709551616) (hp1 : -1000 ≤ p) (hp2 : p ≤ 1000) (hn1 : 1 ≤ (strip (decF V)).length) (hn2 : (strip (decF V)).length ≤ 20)
    (htab : ∀ W, Below w.heap.size w W → Lib.TabIs Tryz.prog W "internal/strconv.uint64pow10" .u64 Lib.pow10Tab)
    (hsf : ∀ W, Below w.heap.size w W → Calls Tryz.prog 202 #[.int .u64 X, .int .i64 (e - (64 - (L : Int)))] W fun r' w' => r' = .returned (.tuple #[.int .u64 V, .int .i64 p]) ∧ Below W.heap.size W w')
    (hf : Fmts u R w V p) :
    Calls Tryz.prog 165 #[u, .float .f64 x, .int .u8 101, .int .i64 (-1)] w fun e w' => ∃ v, e = .returned v ∧ R v w' := by
  have hb := bits_in x
  have e1 := exp_field (x := x) (F := 0) (by omega) (by omega)
  have e2 := low_and x (by omega)
  rw [show x % 4503599627370496 = x from Nat.mod_eq_of_lt hx] at e2
  have e4 : ((x : Int) / 9223372036854775808 != 0) = false := by rw [bne_eq_false_iff_eq]; omega
  have e5 : ((x : Int) == 0) = false := by rw [beq_eq_false_iff_ne]; omega
  have hlen := fun W => (Tryz.bits_Len64 (x : Int) W (by omega) (by omega)).mono fun e w' h => (⟨h.1, h.2.symm⟩ : _ ∧ W = w')
  rw [Int.toNat_natCast, hL] at hlen
  have HLEN := Lib.hid hlen
  have hsh : IntKind.u64.wrap ((x : Int) * 2 ^ (64 - L)) = (X : Int) := by
    have : (x : Int) * 2 ^ (64 - L) = (X : Int) := by rw [← hX, Int.natCast_mul, pow_cast]
    rw [this, wu64]; omega
  have hsf2 : ∀ (k : Int) W, k = e - (64 - (L : Int)) → Below w.heap.size w W → Calls Tryz.prog 202 #[.int .u64 X, .int .i64 k] W fun r' w' => r' = .returned (.tuple #[.int .u64 V, .int .i64 p]) ∧ Below W.heap.size W w' := fun k W hk hb => by
    subst hk; exact hsf W hb
  have hsf3 : ∀ (nq : Nat) (k : Int), k = e - (64 - (L : Int)) → Calls Tryz.prog 202 #[.int .u64 X, .int .i64 k] ((w.drewN nq).alloc (.cells zeros32 201)) fun r' w' => r' = .returned (.tuple #[.int .u64 V, .int .i64 p]) ∧ Hid (Row32 w'.drew w.heap.size ∧ Below w.heap.size w w'.drew) := fun nq k hk => by
    have hbw : Below w.heap.size w ((w.drewN nq).alloc (.cells zeros32 201)) := (pw_below_drewN (Below.refl _ w) nq).alloc (Nat.le_refl _) _
    refine (hsf2 k _ hk hbw).mono ?_
    rintro r' w' ⟨rfl, hb1⟩
    have hsz : w.heap.size ≤ ((w.drewN nq).alloc (.cells zeros32 201)).heap.size := hbw.size
    exact ⟨rfl, Lib.hid ⟨(row32_new (w := w.drewN nq) hb1).drewN 1, pw_below_drewN (hbw.trans (hb1.mono hsz)) 1⟩⟩
  unfold zeros32 at hsf3
  have HSF := Lib.hid hsf3
  have HF := Lib.hid hf
  have HTAB := Lib.hid htab
  have HE := Lib.hid he
  clear hlen hsf hsf2 hsf3 hf htab hX hL he
  go_enter Tryz.func165, Tryz.ntmps165
  go_wp2
  go_quiet (fail)
  go_wp2_with (first | (go_at_call 193; ((with_reducible refine (HLEN.out _).mono ?_); rintro e' w' ⟨rfl, rfl⟩)) | (go_at_call 202; ((with_reducible refine (HSF.out _ _ (by have := HE.out; omega)).mono ?_); rintro e' w1 ⟨rfl, hb1⟩)))
  have HROW := Lib.hid hb1.out.1
  have HBEL := Lib.hid hb1.out.2
  clear hb1
  go_region_with (first | (go_at_call 196; refine (Tryz.internal_strconv_numDigits V (by omega) hV64 _ (HTAB.out _ HBEL.out)).mono ?_; rintro e' w' ⟨rfl, rfl⟩) | (go_at_call 195; refine (setDigits_calls w.heap.size V p _ HROW.out hV hV64 hp1 hp2).mono ?_; rintro e' w2 ⟨rfl, hfig, hb2⟩; have HC := Lib.hid (HF.out.out w2 hfig (HBEL.out.trans hb2)); clear hfig hb2))
  all_goals go_wp2_with (go_at_call 192; ((with_reducible refine HC.out.mono ?_); rintro e' w4 ⟨v, rfl, hR⟩))
  all_goals go_ret
  all_goals exact ⟨v, rfl, hR⟩
end Go.Proofs.YtkjpelgdppmbjaaGreatDoor.SF
namespace Go.Proofs.YtkjpelgdppmbjaaGreatDoor.SF
open Go.RowKit YtkjpelgdppmbjaaGreatDoorW.PrintWords YtkjpelgdppmbjaaGreatDoorW.PrintLast YtkjpelgdppmbjaaGreatDoorW.PrintMore CB CR CQ HB HD FT FE
attribute [local go_sem] max2_int min2_int max_two min_two max_three min_three max_four min_four   -- for this text's walks alone

theorem mod_gt {y m : Nat} {e k : Int} {lo hi r : Nat} (hw : Word y m e) (h : Shape y m e k lo hi r) : 1 ≤ pickD lo hi r ∧ pickD lo hi r < 1152921504606846976 := by
  have hz := (reads_zone hw).1 ((h.grid.iff hi).2 ⟨h.grid.le, Nat.le_refl _⟩)
  have hQ := unitQ_pos e k
  have h1 := hz.hi
  have h2 := h.near
  have hm := hw.lt
  have h3 : 2 * (m * unitT e k) + unitT e k = (2 * m + 1) * unitT e k := by rw [Nat.add_mul, Nat.one_mul, Nat.mul_assoc]
  have h4 : (2 * m + 1) * unitT e k ≤ 18014398509481983 * unitT e k := Nat.mul_le_mul_right _ (by omega)
  have h5 : hi < 240191980126426440 := by
    refine Nat.lt_of_mul_lt_mul_right (a := unitQ e k) ?_
    omega
  have h6 := h.grid.pos
  have h7 := h.grid.le
  have h8 := h.rin
  unfold pickD
  split
  · omega
  · split <;> omega
/-- A number's place and figures, told by formulas. -/
def rF (m : Nat) (e : Int) : Nat := rneQ (m * unitT e (kOf m e)) (unitQ e (kOf m e))
def bestD (m : Nat) (e : Int) : Nat := pickD (loF m e) (hiF m e) (rF m e)
def bestK (m : Nat) (e : Int) : Int := pickK (loF m e) (hiF m e) (kOf m e)
theorem short_the {y m s : Nat} {e : Int} (hw : Word y m e) (hs1 : 9223372036854775808 ≤ m * 2 ^ s) (hs2 : m * 2 ^ s < 18446744073709551616) (w : World) (B : Nat) (hB : B ≤ w.heap.size) (ht : Pow10 w B) :
    Shape y m e (kOf m e) (loF m e) (hiF m e) (rF m e) ∧ Calls Tryz.prog 202 #[.int .u64 ((m * 2 ^ s : Nat) : Int), .int .i64 (e - (s : Int))] w fun r' w' => r' = .returned (.tuple #[.int .u64 (bestD m e : Nat), .int .i64 (bestK m e)]) ∧ Below w.heap.size w w' := by
  obtain ⟨k, lo, hi, r, h1, h2⟩ := short_calls hw hs1 hs2 w B hB ht
  obtain ⟨rfl, rfl, rfl⟩ := h1.the
  obtain rfl := h1.round
  exact ⟨h1, h2⟩
theorem left_just {m : Nat} (h0 : m ≠ 0) (h : m < 9007199254740992) : 1 ≤ Lib.bitLen m ∧ Lib.bitLen m ≤ 53 ∧ 9223372036854775808 ≤ m * 2 ^ (64 - Lib.bitLen m) ∧ m * 2 ^ (64 - Lib.bitLen m) < 18446744073709551616 := by
  have h1 := bitLen_log m h0 (Nat.lt_trans h (by decide))
  have h2 : m.log2 < 53 := log_mono (by rw [show (2 : Nat) ^ 53 = 9007199254740992 by decide]; exact h) h0
  have h3 := log_le h0
  have h4 := lt_log m
  generalize m.log2 = L at *
  rw [h1]
  refine ⟨by omega, by omega, ?_, ?_⟩
  · have h5 : 2 ^ L * 2 ^ (64 - (L + 1)) ≤ m * 2 ^ (64 - (L + 1)) := Nat.mul_le_mul_right _ h3
    rw [← Nat.pow_add, show L + (64 - (L + 1)) = 63 by omega] at h5
    exact h5
  · have h5 : m * 2 ^ (64 - (L + 1)) < 2 ^ (L + 1) * 2 ^ (64 - (L + 1)) := Nat.mul_lt_mul_of_pos_right h4 (Nat.pow_pos (by omega))
    rw [← Nat.pow_add, show L + 1 + (64 - (L + 1)) = 64 by omega] at h5
    exact h5
theorem best_range {y m : Nat} {e : Int} (hw : Word y m e) (h : Shape y m e (kOf m e) (loF m e) (hiF m e) (rF m e)) : 1 ≤ bestD m e ∧ bestD m e < 1152921504606846976 ∧ -400 ≤ bestK m e ∧ bestK m e ≤ 400 := by
  obtain ⟨h1, h2⟩ := mod_gt hw h
  have h3 := h.low
  have h4 := h.high
  refine ⟨h1, h2, ?_⟩
  unfold bestK pickK
  split <;> omega
/-- The figures that are left. -/
theorem left_figs {V : Nat} (h0 : V ≠ 0) (h64 : V < 18446744073709551616) : Good (strip (decF V)) ∧ (∀ d ∈ strip (decF V), d < 10) ∧ (strip (decF V)).length ≤ 20 ∧ Lib.nDigits V ≤ 20 ∧ ∃ t, decF V = strip (decF V) ++ List.replicate t 0 ∧ V = numL (strip (decF V)) * 10 ^ t ∧ Lib.nDigits V = (strip (decF V)).length + t := by
  obtain ⟨a1, _, a3, a4, _, _⟩ := decF_all V
  obtain ⟨b1, b2, b3, b4⟩ := decF_tops h0 h64
  obtain ⟨_, c2, _, c4, _⟩ := tops_end b1 h0 b2 b3 b4
  obtain ⟨t, ht⟩ := numL_strip (decF V)
  have hn := congrArg numL ht
  rw [numL_zeros, a3] at hn
  have hl := congrArg List.length ht
  rw [List.length_append, List.length_replicate, a1] at hl
  refine ⟨c2, fun d hd => a4 d ?_, c4, b4, t, ht, hn, hl⟩
  rw [ht]; exact List.mem_append_left _ hd
/-- What ftoa64 tells: the text's bytes in a row above w. -/
structure Shorts (w : World) (V : Nat) (p : Int) (v : Value) (w' : World) : Prop where mk ::
  out : ∃ ok, Kd.R (Kd.int .u8) 5 w' w.heap.size ok v (ints (floatB (strip (decF V)) 0 ((Lib.nDigits V : Nat) + p - 1)))
  bel : Below w.heap.size w w'
theorem fmts_ok (w : World) (V : Nat) (p : Int) (h0 : V ≠ 0) (h1 : V < 18446744073709551616) (hp1 : -400 ≤ p) (hp2 : p ≤ 400) :
    Fmts (.slice (some ⟨w.heap.size, 0, none⟩) 0 24) (Shorts w V p) (w.alloc (.cells (madeCells #[.int .u8 0] 24) 5)) V p := by
  refine ⟨fun w1 hfig hb => ?_⟩
  obtain ⟨hg, hten, hlen, hK, t, ht, _, hKl⟩ := left_figs h0 h1
  have hcells : ∀ i, i < (strip (decF V)).length → w1.cell? ⟨(w.alloc (.cells (madeCells #[.int .u8 0] 24) 5)).heap.size, i, none⟩ = some (.int .u8 ((48 + (strip (decF V)).getD i 0 : Nat) : Int)) := fun i hi => by
    have h := hfig.cell i (by rw [ht, List.length_append]; omega)
    rw [ht, getD_left _ _ hi] at h
    exact h
  clear hfig
  generalize hds : strip (decF V) = ds at *
  generalize hKd : Lib.nDigits V = K at *
  have hsz : (w.alloc (.cells (madeCells #[.int .u8 0] 24) 5)).heap.size = w.heap.size + 1 := Array.size_push _
  obtain ⟨d, r, rfl⟩ := List.exists_cons_of_ne_nil hg.ne
  simp only [List.length_cons] at hlen
  have hba : Below w.heap.size w (w.alloc (.cells (madeCells #[.int .u8 0] 24) 5)) := (Below.refl w.heap.size w).alloc (Nat.le_refl _) _
  have hb0 : Below w.heap.size w w1 := hba.trans (hb.mono (by rw [hsz]; omega))
  have hlm : ((d :: r).map fun x => ((48 + x : Nat) : Int)).length = r.length + 1 := by simp
  have hev : ∃ k, strconv_fmtEFG.f k [] false ((d :: r).map fun x => ((48 + x : Nat) : Int)) ((K : Int) + p) ((r.length + 1 : Nat) : Int) (((r.length + 1 : Nat) : Int) - 1) 101 true = some (ints (floatB (d :: r) 0 ((K : Int) + p - 1))) := by
    by_cases hr : r = []
    · subst hr
      obtain ⟨k, hk⟩ := efg_one (d := d) (e := (K : Int) + p - 1) (l2 := [((48 + d : Nat) : Int)]) true (hten d (List.mem_cons_self ..)) (by simp) rfl (by omega)
      have hk := hk k (Nat.le_refl _)
      rw [show (K : Int) + p - 1 + 1 = (K : Int) + p by omega] at hk
      exact ⟨k, hk⟩
    · have hr1 : 1 ≤ r.length := List.length_pos_iff.2 hr
      obtain ⟨k, hk⟩ := efg_text (d := d) (r := r) (z := 0) (e := (K : Int) + p - 1) (l2 := (d :: r).map fun x => ((48 + x : Nat) : Int)) true hten (by rw [hlm]; omega) rfl (by rw [List.map_cons, List.take_succ_cons, List.drop_succ_cons, List.drop_zero, List.take_of_length_le (by simp)]) (by omega) (by omega) (by omega)
      have hk := hk k (Nat.le_refl _)
      rw [show (K : Int) + p - 1 + 1 = (K : Int) + p by omega, show ((r.length + 0 : Nat) : Int) = ((r.length + 1 : Nat) : Int) - 1 by omega] at hk
      exact ⟨k, hk⟩
  obtain ⟨k, hk⟩ := hev
  refine (strconv_fmtEFG.calls k (fun k => k = w.heap.size) (.slice (some ⟨w.heap.size, 0, none⟩) 0 24) [] false (some ⟨(w.alloc (.cells (madeCells #[.int .u8 0] 24) 5)).heap.size, 0, none⟩) 32 32 ((d :: r).map fun x => ((48 + x : Nat) : Int)) ((K : Int) + p) ((r.length + 1 : Nat) : Int) (((r.length + 1 : Nat) : Int) - 1) 101 true _ w w1 hb0
    (Kd.R_below (row0 w 24 (by decide)) hb) ?_ (by rw [hlm]; omega) (Nat.le_refl _) hk).mono ?_
  · intro W hkp
    refine Kd.C_of_reads (enc := Value.int .u8) (d := (0 : Int)) (h1 := fun _ => rfl) ⟨rfl, by rw [hlm]; omega, fun _ => ⟨_, rfl, fun j hj => ?_⟩⟩
    rw [hlm] at hj
    have hlt : (w.alloc (.cells (madeCells #[.int .u8 0] 24) 5)).heap.size < w1.heap.size := cell_in (hcells 0 (by simp))
    have hs := hkp.2 _ hlt (by rw [hsz]; omega)
    have hc := hcells j (by simp only [List.length_cons]; omega)
    have hadd : (⟨(w.alloc (.cells (madeCells #[.int .u8 0] 24) 5)).heap.size, 0, none⟩ : Addr).add j = ⟨(w.alloc (.cells (madeCells #[.int .u8 0] 24) 5)).heap.size, j, none⟩ := by unfold Addr.add; split <;> simp_all
    rw [hadd, show W.cell? ⟨(w.alloc (.cells (madeCells #[.int .u8 0] 24) 5)).heap.size, j, none⟩ = w1.cell? ⟨(w.alloc (.cells (madeCells #[.int .u8 0] 24) 5)).heap.size, j, none⟩ by unfold World.cell?; rw [hs], hc]
    simp only [List.getD_eq_getElem?_getD, List.getElem?_map]
    rw [List.getElem?_eq_getElem (by simp only [List.length_cons]; omega)]
    rfl
  · rintro e' w' ⟨v, rfl, hr, hb', _⟩
    rw [← hds, ← hKd] at hr
    exact ⟨v, rfl, ⟨_, hr⟩, hb'⟩
set_option maxHeartbeats 2000000 in
set_option maxRecDepth 100000 in
theorem format_in_short (x V : Nat) (p : Int) (w : World)
    (hfa : Calls Tryz.prog 165 #[.slice (some ⟨w.heap.size, 0, none⟩) 0 24, .float .f64 x, .int .u8 101, .int .i64 (-1)] (w.alloc (.cells (madeCells #[.int .u8 0] 24) 5)) fun e' w' => ∃ v, e' = .returned v ∧ Shorts w V p v w') :
    Calls Tryz.prog 134 #[.float .f64 x, .int .u8 101, .int .i64 (-1), .int .i64 64] w fun r w' => r = .returned (.string (floatT (strip (decF V)) 0 ((Lib.nDigits V : Nat) + p - 1))) ∧ Below w.heap.size w w' := by
  obtain ⟨i0, hi0, hz0, hs0, hb0⟩ := info_parts FE.info5
  have hmk : ∀ W : World, (Instr.makeSlice 22 (.int .i64 0) (.int .i64 24)).run Tryz.prog W = .ok (.slice (some ⟨W.heap.size, 0, none⟩) 0 24) (W.alloc (.cells (madeCells #[.int .u8 0] 24) 5)) := fun W => by
    have h := run_make (P := Tryz.prog) W 22 5 i0 (.int .u8 0) Tryz.underlying22 hi0 hz0 .i64 .i64 0 24 (by omega) (by omega) (by rw [hb0]; omega) (by omega)
    rw [hs0] at h
    exact h
  generalize madeCells #[Value.int .u8 0] 24 = MC at *
  have HFA := Lib.hid hfa
  clear hfa hi0 hz0 hs0 hb0
  go_enter Tryz.func134, Tryz.ntmps134
  go_wp2_with (go_at_call 165; ((with_reducible refine HFA.out.mono ?_); rintro e1 w1 ⟨v, rfl, hsh⟩; obtain ⟨⟨ok, hr⟩, hbel⟩ := hsh; have hcv := show_string hr; have HEND := Lib.hid hbel; clear hr hbel))
  go_ret
  exact ⟨rfl, HEND.out⟩
end Go.Proofs.YtkjpelgdppmbjaaGreatDoor.SF
namespace Go.Proofs.YtkjpelgdppmbjaaGreatDoor.SF
open Go.RowKit YtkjpelgdppmbjaaGreatDoorW.PrintWords CB FT CR CF CG HB HD
open Go.Proofs.YtkjpelgdppmbjaaGreatDoor.Pure (decN)

theorem shape_of {y m : Nat} {e : Int} (hw : Word y m e) (w : World) (B : Nat) (hB : B ≤ w.heap.size) (ht : Pow10 w B) : Shape y m e (kOf m e) (loF m e) (hiF m e) (rF m e) := by
  obtain ⟨_, _, h3, h4⟩ := left_just hw.ne hw.lt
  exact (short_the hw h3 h4 w B hB ht).1
theorem ftoa_best {y m : Nat} {e : Int} (hw : Word y m e) (u : Value) (w : World) (B : Nat) (R : Value → World → Prop) (hB : B ≤ w.heap.size) (ht : Tome w B) (hf : Fmts u R w (bestD m e) (bestK m e)) :
    Calls Tryz.prog 165 #[u, .float .f64 y, .int .u8 101, .int .i64 (-1)] w fun e w' => ∃ v, e = .returned v ∧ R v w' := by
  obtain ⟨l1, l2, l3, l4⟩ := left_just hw.ne hw.lt
  obtain ⟨b1, b2, b3, b4⟩ := best_range hw (shape_of hw w B hB ht.pow)
  obtain ⟨hg, _, hlen, _⟩ := left_figs (V := bestD m e) (by omega) (by omega)
  have hn1 : 1 ≤ (strip (decF (bestD m e))).length := List.length_pos_iff.2 hg.ne
  have htab : ∀ W, Below w.heap.size w W → Lib.TabIs Tryz.prog W "internal/strconv.uint64pow10" .u64 Lib.pow10Tab := fun W hb => ht.tab W (hb.mono hB)
  have hsf : ∀ W, Below w.heap.size w W → Calls Tryz.prog 202 #[.int .u64 ((m * 2 ^ (64 - Lib.bitLen m) : Nat) : Int), .int .i64 (e - (64 - (Lib.bitLen m : Int)))] W fun r' w' => r' = .returned (.tuple #[.int .u64 (bestD m e : Nat), .int .i64 (bestK m e)]) ∧ Below W.heap.size W w' := fun W hb => by
    have h := (short_the hw l3 l4 W B (Nat.le_trans hB hb.size) (ht.pow.below (hb.mono hB))).2
    rw [show ((64 - Lib.bitLen m : Nat) : Int) = 64 - (Lib.bitLen m : Int) by omega] at h
    exact h
  obtain ⟨h1, h2, h3, h4, h5, h6⟩ := hw
  by_cases hm : m < 4503599627370496
  · have he : e = -1074 := Classical.byContradiction fun h => by have := h6 h; omega
    have hy : y = m := by rw [h1, he]; simp
    subst hy
    exact short_way_sub y _ (bestD y e) (Lib.bitLen y) (bestK y e) e u w R h2 hm he rfl l1 (by omega) rfl l4 (by omega) (by omega) (by omega) (by omega) hn1 hlen htab hsf hf
  · obtain ⟨k, rfl⟩ : ∃ k, m = k + 4503599627370496 := ⟨m - 4503599627370496, by omega⟩
    obtain ⟨F, hF⟩ : ∃ F : Nat, (F : Int) = e + 1075 := ⟨(e + 1075).toNat, by omega⟩
    refine short_way_norm y F k _ _ (Lib.bitLen (k + 4503599627370496)) _ e u w R ?_ (by omega) (by omega) (by omega) (by omega) rfl l1 (by omega) rfl l4 (by omega) (by omega) (by omega) (by omega) hn1 hlen htab hsf hf
    rw [h1, show (e + 1074).toNat = F - 1 by omega]
    omega
theorem format_best {y m : Nat} {e : Int} (hw : Word y m e) (w : World) (B : Nat) (hB : B ≤ w.heap.size) (ht : Tome w B) :
    Calls Tryz.prog 91 #[.float .f64 y, .int .u8 101, .int .i64 (-1), .int .i64 64] w fun r w' => r = .returned (.string (floatT (strip (decF (bestD m e))) 0 ((Lib.nDigits (bestD m e) : Nat) + bestK m e - 1))) ∧ Below w.heap.size w w' := by
  obtain ⟨b1, b2, b3, b4⟩ := best_range hw (shape_of hw w B hB ht.pow)
  have hba : Below w.heap.size w (w.alloc (.cells (madeCells #[.int .u8 0] 24) 5)) := (Below.refl w.heap.size w).alloc (Nat.le_refl _) _
  have hin := format_in_short y (bestD m e) (bestK m e) w (ftoa_best hw _ _ B (Shorts w (bestD m e) (bestK m e)) (Nat.le_trans hB hba.size) (ht.below (hba.mono hB)) (fmts_ok w _ _ (by omega) (by omega) b3 b4))
  have HIN := Lib.hid hin
  clear hba hin b1 b2 b3 b4
  generalize floatT (strip (decF (bestD m e))) 0 ((Lib.nDigits (bestD m e) : Nat) + bestK m e - 1) = T at *
  go_enter Tryz.func91, Tryz.ntmps91
  go_wp2_with (go_at_call 134; ((with_reducible refine HIN.out.mono ?_); rintro e1 w1 ⟨rfl, hbel⟩))
  go_ret
  exact ⟨rfl, hbel⟩
set_option maxHeartbeats 2000000 in
set_option maxRecDepth 100000 in
theorem sci_walk (x u n : Nat) (T : ByteArray) (f q : Int) (w : World) (hx : x < 18446744073709551616) (hq1 : -2000 ≤ q) (hq2 : q ≤ 2000) (hln : n ≤ 800) (hf : q - 1 - n + 1 = f) (hS : Sci T u n (q - 1))
    (hfo : Calls Tryz.prog 91 #[.float .f64 (x % 9223372036854775808), .int .u8 101, .int .i64 (-1), .int .i64 64] w fun r w' => r = .returned (.string T) ∧ Below w.heap.size w w') :
    Calls Tryz.prog 59 #[.int .u64 x, .int .i64 (-1)] w fun e w' => e = .returned (.tuple #[.string (decN u), .int .i64 f]) ∧ Below w.heap.size w w' := by
  have HFO := Lib.hid hfo
  have HS := Lib.hid hS
  have HA := Lib.hid (abs_calls x w hx)
  clear hfo hS
  go_enter Tryz.func59, Tryz.ntmps59
  go_wp2_with (first | (go_at_call 93; refine (real_calls x _).mono ?_; rintro e w' ⟨rfl, rfl⟩) | (go_at_call 92; ((with_reducible refine HA.out.mono ?_); rintro e w' ⟨rfl, rfl⟩)) | (go_at_call 91; ((with_reducible refine HFO.out.mono ?_); rintro e1 w1 ⟨rfl, hbel⟩; have hS := HS.out; obtain ⟨M, X, A, Bq, C, i, s1, s2, s3, s4, s5, s6, s7, s8, s9, s10, s11, s12, s13, s14⟩ := hS)) | (go_at_call 94; refine (cut_calls T M X i _ s1 s2 s3 s4 (by omega)).mono ?_; rintro e2 w2 ⟨rfl, ⟨k2, rfl⟩⟩) | (go_at_call 71; refine (Tryz.strconv_Atoi X (q - 1) s5 s6 _).mono ?_; rintro e3 w3 ⟨rfl, ⟨t3, rfl⟩⟩))
  have hTP := Lib.hid (fun W => by have := Tryz.strings_TrimPrefix Bq ⟨#[46]⟩ W; rw [s10] at this; exact this)
  have hTR := Lib.hid (fun W => by have := Tryz.strings_TrimRight_one (A ++ C) 48 (by decide) W (by omega); rw [s11] at this; exact this)
  have s7i : (1 : Int) ≤ (M.size : Int) := by omega
  have s13n : A.size + C.size ≤ 9223372036854775807 := by rw [ByteArray.size_append] at s13; omega
  have s13i : (A.size : Int) + (C.size : Int) ≤ 9223372036854775807 := by omega
  clear s10 s11
  go_quiet (first | (go_at_call 96; exact Calls.quiet_of_same (hTP.out _)) | (go_at_call 95; exact Calls.quiet_of_same (hTR.out _)))
  have w1e : IntKind.i64.wrap (q - 1 - (n : Int)) = q - 1 - n := by rw [wi64]; exact w64 (by omega) (by omega)
  have w2e : IntKind.i64.wrap (q - 1 - (n : Int) + 1) = f := by rw [wi64, w64 (by omega) (by omega)]; exact hf
  go_wp2
  go_ret2
  have hb2 := Lib.bytesWorld_below (w1.drewN k2) 5 t3
  refine ⟨?_, pw_below_drewN ((pw_below_drewN hbel k2).trans (hb2.mono hbel.size)) nq⟩
  first
  | rfl
  | (congr 2; simp [s12, ← hf]; done)
/-- The figures of a number, the fewest, and their power of ten. -/
def bestU (m : Nat) (e : Int) : Nat := numL (strip (decF (bestD m e)))
def bestF (m : Nat) (e : Int) : Int := (Lib.nDigits (bestD m e) : Nat) + bestK m e - (strip (decF (bestD m e))).length
theorem sci_best {x m : Nat} {s : Bool} {e : Int} (hx : x < 18446744073709551616) (hr : Ieee.double.read x = .number s m e) (hm : m ≠ 0) (w : World) (B : Nat) (hB : B ≤ w.heap.size) (ht : Tome w B) :
    Calls Tryz.prog 59 #[.int .u64 x, .int .i64 (-1)] w fun e' w' => e' = .returned (.tuple #[.string (decN (bestU m e)), .int .i64 (bestF m e)]) ∧ Below w.heap.size w w' := by
  have hw := word_of hx hr hm
  obtain ⟨b1, b2, b3, b4⟩ := best_range hw (shape_of hw w B hB ht.pow)
  obtain ⟨hg, hten, hlen, hK, t, _, _, hKl⟩ := left_figs (V := bestD m e) (by omega) (by omega)
  have hfo := format_best hw w B hB ht
  have hS := sci_ok (z := 0) (e := (Lib.nDigits (bestD m e) : Nat) + bestK m e - 1) hten hg.top (good_last hg) (by omega) (by omega) (by omega)
  refine sci_walk x (bestU m e) (strip (decF (bestD m e))).length _ (bestF m e) ((Lib.nDigits (bestD m e) : Nat) + bestK m e) w hx (by omega) (by omega) (by omega) ?_ hS hfo
  unfold bestF
  omega
end Go.Proofs.YtkjpelgdppmbjaaGreatDoor.SF
namespace Go.Proofs.YtkjpelgdppmbjaaGreatDoor.G
open Go.RowKit YtkjpelgdppmbjaaGreatDoorW.PrintWords CB CQ PN SF
open Go.Proofs.YtkjpelgdppmbjaaGreatDoor.Pure (valD nearOk decN)

/-- The tables that number reading and number showing ask for stand in the world. -/
structure Homey (w : World) : Prop where mk ::
  out : ∃ B, B ≤ w.heap.size ∧ Home w B ∧ Tome w B
theorem Homey.below {w w' : World} (h : Homey w) (hb : Below w.heap.size w w') : Homey w' := by
  obtain ⟨B, h1, h2, h3⟩ := h.out
  exact ⟨B, Nat.le_trans h1 hb.size, h2.below (hb.mono h1), h3.below (hb.mono h1)⟩
theorem near_is (s : ByteArray) (E : Int) : ∃ w : Nat, (nearOk s E = false → w = 0) ∧ (nearOk s E = true → NearE (valD s.data.toList * 10 ^ E.toNat) (10 ^ (-E).toNat) 0 w) := by
  cases h : nearOk s E with
  | false => exact ⟨0, fun _ => rfl, fun h => by cases h⟩
  | true =>
    obtain ⟨w, hw⟩ := nearE_any (A := valD s.data.toList * 10 ^ E.toNat) (B := 10 ^ (-E).toNat) (Nat.pow_pos (by omega))
    exact ⟨w, fun h => (by cases h), fun _ => hw⟩
/-- The word that Nearest tells. -/
noncomputable def nearW (s : ByteArray) (E : Int) : Nat := Classical.choose (near_is s E)
theorem nearW_bad {s : ByteArray} {E : Int} (h : nearOk s E = false) : nearW s E = 0 := (Classical.choose_spec (near_is s E)).1 h
theorem nearW_good {s : ByteArray} {E : Int} (h : nearOk s E = true) : NearE (valD s.data.toList * 10 ^ E.toNat) (10 ^ (-E).toNat) 0 (nearW s E) := (Classical.choose_spec (near_is s E)).2 h
noncomputable def impl_Nearest (s : ByteArray) (E : Int) : Option Int := if s.size ≤ 140737488351232 then some ((nearW s E : Nat) : Int) else none
theorem impl_Nearest_calls (a0 : ByteArray) (a1 r : Int) (w : World) (hm : Homey w) (h : impl_Nearest a0 a1 = some r) :
    Calls Tryz.prog 15 #[.string a0, .int .i64 a1] w fun e w' => e = .returned (.int .u64 r) ∧ Below w.heap.size w w' := by
  unfold impl_Nearest at h
  split at h
  · rename_i hs
    obtain ⟨B, h1, h2, _⟩ := hm.out
    rw [← Option.some.inj h]
    exact nearest_same a0 a1 w B h1 h2 hs (nearW a0 a1) nearW_bad nearW_good
  · cases h
/-- The fewest figures and the power of ten of a finite number. -/
def shortF (x : Nat) : Option (ByteArray × Int) := match Ieee.double.read x with
  | .number _ m e => if m = 0 then none else some (decN (bestU m e), bestF m e)
  | _ => none
def impl_scientific (a0 a1 : Int) : Option (ByteArray × Int) := if 0 ≤ a0 ∧ a0 < 18446744073709551616 ∧ a1 = -1 then shortF a0.toNat else none
theorem impl_scientific_calls (a0 a1 : Int) (r1 : ByteArray) (r2 : Int) (w : World) (hm : Homey w) (h : impl_scientific a0 a1 = some (r1, r2)) :
    Calls Tryz.prog 59 #[.int .u64 a0, .int .i64 a1] w fun e w' => e = .returned (.tuple #[.string r1, .int .i64 r2]) ∧ Below w.heap.size w w' := by
  unfold impl_scientific at h
  split at h
  · rename_i hs
    obtain ⟨h0, h1, rfl⟩ := hs
    obtain ⟨x, rfl⟩ : ∃ x : Nat, a0 = x := ⟨a0.toNat, by omega⟩
    rw [Int.toNat_natCast] at h
    obtain ⟨B, hB, _, hh⟩ := hm.out
    unfold shortF at h
    split at h
    · rename_i s m e hr
      split at h
      · cases h
      · rename_i hm0
        injection h with h
        injection h with e1 e2
        subst e1 e2
        exact sci_best (by omega) hr hm0 w B hB hh
    · cases h
  · cases h
end Go.Proofs.YtkjpelgdppmbjaaGreatDoor.G
namespace Go.Proofs.YtkjpelgdppmbjaaGreatDoor.HL
open CQ HA HB HD SF

/-- The number's own figures make its range a reading. -/
theorem read_of {y m U : Nat} {e f : Int} (hx : y < 9218868437227405312) (hr : Ieee.double.read y = .number false m e) (hm : m ≠ 0) (hU : U % 10 ≠ 0) (hv : (U * 10 ^ f.toNat) * 2 ^ (-e).toNat = (m * 2 ^ e.toNat) * 10 ^ (-f).toNat) : HB.Read (Reads y) U f := by
  have hp : ∀ n : Nat, 0 < 10 ^ n := fun n => Nat.pow_pos (by omega)
  refine ⟨fun K D => ?_, fun K a b c ha hb h1 h2 => ?_, ?_, hU⟩
  · have h := nearE_ten (M := D) (t := 1) (u := y) (p := K + 1) (E := K) (by omega)
    rw [Nat.pow_one, Nat.mul_comm D 10] at h
    exact h
  · refine PN.nearE_between (hp _) (hp _) (hp _) ?_ ?_ ha hb
    · exact Nat.mul_le_mul_right _ (Nat.mul_le_mul_right _ h1)
    · exact Nat.mul_le_mul_right _ (Nat.mul_le_mul_right _ h2)
  · have h1 := near_nearE (M := m) (E := e) hm
    rw [CG.near_read (by omega) hr] at h1
    refine (nearE_same (A := m) (B := 1) (C := U * 10 ^ f.toNat) (D := 10 ^ (-f).toNat) (E := e) (F := 0) (by omega) (hp _) (-e).toNat e.toNat (by omega) ?_).1 h1
    rw [Nat.mul_one, hv]
theorem unit_eq {m U : Nat} {e f k : Int} (hv : (U * 10 ^ f.toNat) * 2 ^ (-e).toNat = (m * 2 ^ e.toNat) * 10 ^ (-f).toNat) (hfk : f ≤ k) : m * unitT e k * 10 ^ (k - f).toNat = U * unitQ e k := by
  have hp : 0 < 10 ^ f.toNat := Nat.pow_pos (by omega)
  apply Nat.eq_of_mul_eq_mul_right hp
  unfold unitT unitQ
  have e1 : 10 ^ (-k).toNat * 10 ^ (k - f).toNat * 10 ^ f.toNat = 10 ^ k.toNat * 10 ^ (-f).toNat := by
    rw [← Nat.pow_add, ← Nat.pow_add, ← Nat.pow_add]
    congr 1
    omega
  calc m * (2 ^ e.toNat * 10 ^ (-k).toNat) * 10 ^ (k - f).toNat * 10 ^ f.toNat = m * 2 ^ e.toNat * (10 ^ (-k).toNat * 10 ^ (k - f).toNat * 10 ^ f.toNat) := by ac_rfl
    _ = (m * 2 ^ e.toNat * 10 ^ (-f).toNat) * 10 ^ k.toNat := by rw [e1]; ac_rfl
    _ = U * (2 ^ (-e).toNat * 10 ^ k.toNat) * 10 ^ f.toNat := by rw [← hv]; ac_rfl
theorem unit_eq2 {m U : Nat} {e f k : Int} (hv : (U * 10 ^ f.toNat) * 2 ^ (-e).toNat = (m * 2 ^ e.toNat) * 10 ^ (-f).toNat) (hkf : k ≤ f) : m * unitT e k = U * 10 ^ (f - k).toNat * unitQ e k := by
  have hp : 0 < 10 ^ (-f).toNat := Nat.pow_pos (by omega)
  apply Nat.eq_of_mul_eq_mul_right hp
  unfold unitT unitQ
  have e1 : 10 ^ f.toNat * 10 ^ (-k).toNat = 10 ^ (f - k).toNat * 10 ^ k.toNat * 10 ^ (-f).toNat := by
    rw [← Nat.pow_add, ← Nat.pow_add, ← Nat.pow_add]
    congr 1
    omega
  calc m * (2 ^ e.toNat * 10 ^ (-k).toNat) * 10 ^ (-f).toNat = (m * 2 ^ e.toNat * 10 ^ (-f).toNat) * 10 ^ (-k).toNat := by ac_rfl
    _ = U * 2 ^ (-e).toNat * (10 ^ f.toNat * 10 ^ (-k).toNat) := by rw [← hv]; ac_rfl
    _ = U * 10 ^ (f - k).toNat * (2 ^ (-e).toNat * 10 ^ k.toNat) * 10 ^ (-f).toNat := by rw [e1]; ac_rfl
/-- What the search takes at a place: the figures below, those above, or, where both do, the nearer. -/
def takeD (a b : Bool) (L rn : Nat) : Nat := if a = true then (if b = true then rn else L) else L + 1
theorem round_two (U t : Nat) : rneQ U t = U / t ∨ rneQ U t = U / t + 1 := by
  unfold rneQ
  split
  · exact .inr rfl
  · exact .inl rfl
theorem two_least : (List.range 10).all (fun m => Nat.ble (10 * unitQ (-1074) (HC.l10 (-1074))) (m * unitT (-1074) (HC.l10 (-1074))) || Nat.blt ((2 * m + 1) * unitT (-1074) (HC.l10 (-1074))) (20 * unitQ (-1074) (HC.l10 (-1074))) || Nat.blt (19 * unitQ (-1074) (HC.l10 (-1074))) (2 * m * unitT (-1074) (HC.l10 (-1074)))) = true := by decide +kernel
/-- The search's end. -/
structure Found (y U len : Nat) (f : Int) (u : Nat) (g : Int) : Prop where mk ::
  low : -330 < f + len
  high : f + len ≤ 327
  out : ∃ n, 1 ≤ n ∧ n ≤ 17 ∧ n ≤ len ∧ (∀ i, 1 ≤ i → i < n → ¬ Reads y (f + len - i) (U / 10 ^ (len - i)) ∧ ¬ Reads y (f + len - i) (U / 10 ^ (len - i) + 1)) ∧
    ((n = len ∧ U = u ∧ f = g) ∨ (n < len ∧ (Reads y (f + len - n) (U / 10 ^ (len - n)) ∨ Reads y (f + len - n) (U / 10 ^ (len - n) + 1)) ∧
      ∀ a b : Bool, (a = true ↔ Reads y (f + len - n) (U / 10 ^ (len - n))) → (b = true ↔ Reads y (f + len - n) (U / 10 ^ (len - n) + 1)) → ∃ j : Nat, takeD a b (U / 10 ^ (len - n)) (rneQ U (10 ^ (len - n))) = 10 ^ j * u ∧ f + len - n + j = g))
theorem pow_eq_of {a b : Nat} (h : 10 ^ a = 10 ^ b) : a = b := by
  rcases Nat.lt_trichotomy a b with h1 | h1 | h1
  · have := Nat.pow_lt_pow_right (a := 10) (by omega) h1; omega
  · exact h1
  · have := Nat.pow_lt_pow_right (a := 10) (by omega) h1; omega
theorem pow_lt_of {a b : Nat} (h : 10 ^ a < 10 ^ b) : a < b := (Nat.pow_lt_pow_iff_right (by omega)).1 h
theorem found {y m U len u t : Nat} {e f k : Int} {lo hi r : Nat} (hw : Word y m e) (hR : HB.Read (Reads y) U f) (hv : (U * 10 ^ f.toNat) * 2 ^ (-e).toNat = (m * 2 ^ e.toNat) * 10 ^ (-f).toNat) (sh : Shape y m e k lo hi r)
    (hl1 : 1 ≤ len) (hl2 : 10 ^ (len - 1) ≤ U) (hl3 : U < 10 ^ len) (hD : pickD lo hi r = 10 ^ t * u) (hu : u % 10 ≠ 0) : Found y U len f u (pickK lo hi k + t) := by
  have hp : ∀ n : Nat, 0 < 10 ^ n := fun n => Nat.pow_pos (by omega)
  have hQ := unitQ_pos e k
  have hT := unitT_pos e k
  have hm1 : 1 ≤ m := by have := hw.ne; omega
  -- where the number lies
  have hpos : f + len ≤ k + 17 := by
    rcases Int.lt_or_le k f with h | h
    · have h1 := unit_eq2 hv (Int.le_of_lt h)
      have h2 := sh.top
      rw [h1] at h2
      have h3 := Nat.lt_of_mul_lt_mul_right h2
      have h4 : 10 ^ (len - 1) * 10 ^ (f - k).toNat ≤ U * 10 ^ (f - k).toNat := Nat.mul_le_mul_right _ hl2
      rw [← Nat.pow_add] at h4
      have h5 : 10 ^ (len - 1 + (f - k).toNat) < 10 ^ 17 := Nat.lt_of_le_of_lt h4 h3
      have := pow_lt_of h5
      omega
    · have h1 := unit_eq hv h
      have h2 := Nat.mul_lt_mul_of_pos_right sh.top (hp (k - f).toNat)
      rw [h1] at h2
      have h3 : U * unitQ e k < 100000000000000000 * 10 ^ (k - f).toNat * unitQ e k := by
        calc U * unitQ e k < 100000000000000000 * unitQ e k * 10 ^ (k - f).toNat := h2
          _ = 100000000000000000 * 10 ^ (k - f).toNat * unitQ e k := by ac_rfl
      have h4 := Nat.lt_of_mul_lt_mul_right h3
      have h5 : 10 ^ (len - 1) < 10 ^ (17 + (k - f).toNat) := by
        rw [Nat.pow_add]
        exact Nat.lt_of_le_of_lt hl2 h4
      have := pow_lt_of h5
      omega
  have hlow : k < f + len := by
    rcases Int.lt_or_le k f with h | h
    · omega
    · have h1 := unit_eq hv h
      have h2 : unitQ e k * 10 ^ (k - f).toNat ≤ m * unitT e k * 10 ^ (k - f).toNat := Nat.mul_le_mul_right _ (Nat.le_trans sh.unit (Nat.le_mul_of_pos_left _ hm1))
      rw [h1, Nat.mul_comm (unitQ e k)] at h2
      have h3 := Nat.le_of_mul_le_mul_right h2 hQ
      have := pow_lt_of (Nat.lt_of_le_of_lt h3 hl3)
      omega
  have hgi := sh.grid.iff
  have hk1 := sh.low
  have hk2 := sh.high
  refine ⟨by omega, by omega, ?_⟩
  by_cases hA : lo ≤ hi / 10 * 10
  · -- a multiple of ten
    have hDe : hi / 10 = 10 ^ t * u := by rw [← hD]; unfold pickD; rw [if_pos hA]
    have hKe : pickK lo hi k = k + 1 := by unfold pickK; rw [if_pos hA]
    rw [hKe]
    have hPt : Reads y (k + 1) (10 ^ t * u) := by
      rw [← hDe]
      refine (hR.ten k _).2 ((hgi _).2 ⟨by omega, by omega⟩)
    obtain ⟨A1, A2, A3, A4⟩ := sh.grid.one hR hu hPt
    have hu0 : u ≠ 0 := fun h => by subst h; exact hu rfl
    rcases Int.lt_or_le (k + 1 + t) (f + len) with hg | hg
    · obtain ⟨n, hn⟩ : ∃ n : Nat, (n : Int) = f + len - (k + 1 + t) := ⟨(f + len - (k + 1 + t)).toNat, by omega⟩
      refine ⟨n, by omega, by omega, by omega, fun i h1 h2 => ⟨A1 _ _ (by omega), A1 _ _ (by omega)⟩, ?_⟩
      by_cases hnl : n = len
      · left
        have hfg : f = k + 1 + t := by omega
        exact ⟨hnl, A4 hfg, hfg⟩
      · right
        have hK : f + len - n = k + 1 + t := by omega
        rw [hK]
        have hL : low U f (k + 1 + t) = U / 10 ^ (len - n) := by
          unfold low
          rw [show (k + 1 + (t : Int) - f).toNat = len - n by omega]
        have hit := hR.hit A3 ((A2 u).2 rfl)
        rw [hL] at hit
        refine ⟨by omega, hit, fun a b ha hb => ⟨0, ?_, by omega⟩⟩
        rw [A2] at ha hb hit
        rw [A2] at hit
        rw [Nat.pow_zero, Nat.one_mul]
        unfold takeD
        by_cases h1 : a = true
        · have h2 := ha.1 h1
          have h3 : ¬ b = true := fun h => by have := hb.1 h; omega
          rw [if_pos h1, if_neg h3, h2]
        · rw [if_neg h1]
          rcases hit with h | h
          · exact absurd (ha.2 h) h1
          · exact h
    · -- the number rounds up to the next power of ten
      have hlow0 : low U f (k + 1 + t) = 0 := by
        unfold low
        refine Nat.div_eq_of_lt (Nat.lt_of_lt_of_le hl3 (Nat.pow_le_pow_right (by omega) (by omega)))
      have hit := hR.hit A3 ((A2 u).2 rfl)
      rw [hlow0, Nat.zero_add, A2, A2] at hit
      obtain rfl : u = 1 := by
        rcases hit with h | h
        · exact absurd h.symm hu0
        · exact h.symm
      have hg2 : k + 1 + t = f + len := by
        rcases Int.lt_or_le (f + len) (k + 1 + t) with h | h
        · exfalso
          have h1 : Reads y (f + ((k + 1 + t - f).toNat : Int)) 1 := by
            rw [show f + ((k + 1 + (t : Int) - f).toNat : Int) = k + 1 + t by omega]
            exact (A2 1).2 rfl
          have h2 := (hR.up f _ 1).1 h1
          rw [Nat.mul_one] at h2
          have h3 : Reads y f (10 ^ len * 1) := by
            rw [Nat.mul_one]
            exact hR.conv f U _ _ hR.self h2 (Nat.le_of_lt hl3) (Nat.pow_le_pow_right (by omega) (by omega))
          have h4 := (hR.up f len 1).2 h3
          have h5 := hR.far (k := k) (show k + 1 ≤ f + (len : Int) by omega) h4
          have h6 := sh.grid.ten_one hR h5 hPt
          rw [Nat.mul_one, Nat.mul_one] at h6
          have := pow_eq_of h6
          omega
        · omega
      have hten : Reads y (f + len - (1 : Nat)) 10 := by
        have h1 := (hR.ten (f + len - 1) 1).1 (by rw [show f + (len : Int) - 1 + 1 = k + 1 + t by omega]; exact (A2 1).2 rfl)
        exact h1
      have hL1 : 1 ≤ U / 10 ^ (len - 1) := (Nat.le_div_iff_mul_le (hp _)).2 (by rw [Nat.one_mul]; exact hl2)
      have hL9 : U / 10 ^ (len - 1) < 10 := by
        rw [Nat.div_lt_iff_lt_mul (hp _), Nat.mul_comm, ← Nat.pow_succ, show (len - 1).succ = len by omega]
        exact hl3
      -- at the place of the range's own figures the number is the second least
      have hleast : t = 0 → 19 * 10 ^ (k - f).toNat < 2 * U ∧ f ≤ k := fun ht => by
        subst ht
        have hfk : f ≤ k := by omega
        have h1 := unit_eq hv hfk
        have hten2 : Reads y k 10 := by
          have h := hten
          rw [show f + (len : Int) - (1 : Nat) = k by omega] at h
          exact h
        have hz := (reads_zone hw).1 hten2
        have h2 := hz.hi
        have h3 : U < 10 * 10 ^ (k - f).toNat := by
          rw [← Nat.pow_succ', show (k - f).toNat.succ = len by omega]
          exact hl3
        have h4 : m * unitT e k < 10 * unitQ e k := by
          refine Nat.lt_of_mul_lt_mul_right (a := 10 ^ (k - f).toNat) ?_
          rw [h1]
          calc U * unitQ e k < 10 * 10 ^ (k - f).toNat * unitQ e k := Nat.mul_lt_mul_of_pos_right h3 hQ
            _ = 10 * unitQ e k * 10 ^ (k - f).toNat := by ac_rfl
        have hm10 : m < 10 := by
          refine Nat.lt_of_mul_lt_mul_right (a := unitQ e k) ?_
          exact Nat.lt_of_le_of_lt (Nat.mul_le_mul_left _ sh.unit) h4
        have he : e = -1074 := Classical.byContradiction fun h => by have := hw.full h; omega
        subst he
        have hk : k = HC.l10 (-1074) := by
          have := sh.the.1
          unfold kOf at this
          rw [if_neg (by omega)] at this
          exact this
        have h5 := List.all_eq_true.1 two_least m (List.mem_range.2 hm10)
        rw [← hk, Bool.or_eq_true, Bool.or_eq_true, Nat.ble_eq, Nat.blt_eq, Nat.blt_eq] at h5
        have e1 : (2 * m + 1) * unitT (-1074) k = 2 * (m * unitT (-1074) k) + unitT (-1074) k := by rw [Nat.add_mul, Nat.one_mul, Nat.mul_assoc]
        have e2 : 2 * m * unitT (-1074) k = 2 * (m * unitT (-1074) k) := Nat.mul_assoc _ _ _
        rw [e1, e2] at h5
        have h6 : 19 * unitQ (-1074) k < 2 * (m * unitT (-1074) k) := by omega
        refine ⟨?_, hfk⟩
        refine Nat.lt_of_mul_lt_mul_right (a := unitQ (-1074) k) ?_
        calc 19 * 10 ^ (k - f).toNat * unitQ (-1074) k = 19 * unitQ (-1074) k * 10 ^ (k - f).toNat := by ac_rfl
          _ < 2 * (m * unitT (-1074) k) * 10 ^ (k - f).toNat := Nat.mul_lt_mul_of_pos_right h6 (hp _)
          _ = 2 * U * unitQ (-1074) k := by rw [Nat.mul_assoc, h1, Nat.mul_assoc]
      have hnine : U / 10 ^ (len - 1) = 9 ∧ (t = 0 → rneQ U (10 ^ (len - 1)) = 10) ∧ (1 ≤ t → ¬ Reads y (f + len - (1 : Nat)) 9) := by
        rcases Nat.eq_zero_or_pos t with ht | ht
        · obtain ⟨h1, h2⟩ := hleast ht
          rw [show (k - f).toNat = len - 1 by omega] at h1
          have h9 : U / 10 ^ (len - 1) = 9 := by
            have : 9 ≤ U / 10 ^ (len - 1) := (Nat.le_div_iff_mul_le (hp _)).2 (by omega)
            omega
          refine ⟨h9, fun _ => ?_, fun h => by omega⟩
          have hd := Nat.div_add_mod U (10 ^ (len - 1))
          unfold rneQ
          rw [h9] at hd ⊢
          rw [if_pos (by left; omega)]
        · have key : ∀ D, Reads y (f + len - (1 : Nat)) D → D = 10 := fun D hDr => by
            have h1 := hR.far (k := k) (show k + 1 ≤ f + (len : Int) - (1 : Nat) by omega) hDr
            have h2 := sh.grid.ten_one hR h1 hPt
            rw [show (f + (len : Int) - (1 : Nat) - k - 1).toNat = t - 1 by omega, Nat.mul_one, show t = t - 1 + 1 by omega, Nat.pow_succ] at h2
            exact Nat.eq_of_mul_eq_mul_left (hp _) h2
          have hit2 := hR.hit (show f ≤ f + (len : Int) - (1 : Nat) by omega) hten
          have hL : low U f (f + len - (1 : Nat)) = U / 10 ^ (len - 1) := by
            unfold low
            rw [show (f + (len : Int) - (1 : Nat) - f).toNat = len - 1 by omega]
          rw [hL] at hit2
          refine ⟨?_, fun h => by omega, fun _ h => by have := key 9 h; omega⟩
          rcases hit2 with h | h
          · have := key _ h; omega
          · have := key _ h; omega
      have hlen2 : 1 < len := by
        rcases Nat.lt_or_ge 1 len with h | h
        · exact h
        · exfalso
          obtain rfl : len = 1 := by omega
          have hU : U = 9 := by
            have := hnine.1
            rw [Nat.sub_self, Nat.pow_zero, Nat.div_one] at this
            exact this
          rcases Nat.eq_zero_or_pos t with ht | ht
          · have h1 := hnine.2.1 ht
            rw [Nat.sub_self, Nat.pow_zero, rneQ_one] at h1
            omega
          · refine hnine.2.2 ht ?_
            rw [← hU, show f + ((1 : Nat) : Int) - (1 : Nat) = f by omega]
            exact hR.self
      refine ⟨1, Nat.le_refl _, by omega, hl1, fun i h1 h2 => by omega, .inr ⟨hlen2, .inr ?_, fun a b ha hb => ⟨1, ?_, by omega⟩⟩⟩
      · rw [hnine.1]; exact hten
      · rw [hnine.1] at ha hb ⊢
        have hbt : b = true := hb.2 hten
        rw [Nat.pow_one, Nat.mul_one]
        unfold takeD
        rw [if_pos hbt]
        split
        · rename_i h1
          rcases Nat.eq_zero_or_pos t with ht | ht
          · exact hnine.2.1 ht
          · exact absurd (ha.1 h1) (hnine.2.2 ht)
        · rfl
  · -- no multiple of ten
    have hn : ∀ s, ¬ Reads y (k + 1) s := fun s h => by
      have h1 := (hgi _).1 ((hR.ten k s).1 h)
      omega
    obtain ⟨B1, B2⟩ := Grid.none hR hn
    have hKe : pickK lo hi k = k := by unfold pickK; rw [if_neg hA]
    rw [hKe]
    obtain ⟨D, hDd⟩ : ∃ D, D = pickD lo hi r := ⟨_, rfl⟩
    have hDv : D = if lo < hi then r else lo := by rw [hDd]; unfold pickD; rw [if_neg hA]
    have hle := sh.grid.le
    have hDr : Reads y k D := by
      rw [hgi, hDv]
      split
      · rename_i h; exact sh.rin h
      · omega
    rw [← hDd] at hD
    have ht0 : t = 0 := by
      rcases Nat.eq_zero_or_pos t with h | h
      · exact h
      · exfalso
        obtain ⟨s, rfl⟩ : ∃ s, t = s + 1 := ⟨t - 1, by omega⟩
        refine hn (10 ^ s * u) ((hR.ten k _).2 ?_)
        rw [show 10 * (10 ^ s * u) = D by rw [hD, Nat.pow_succ]; ac_rfl]
        exact hDr
    subst ht0
    rw [Nat.pow_zero, Nat.one_mul] at hD
    subst hD
    have hue := unit_eq hv B2
    obtain ⟨n, hnn⟩ : ∃ n : Nat, (n : Int) = f + len - k := ⟨(f + len - k).toNat, by omega⟩
    have hkf : (k - f).toNat = len - n := by omega
    rw [hkf] at hue
    have hround : r = rneQ U (10 ^ (len - n)) := by
      rw [sh.round]
      exact rneQ_same hQ (hp _) hue
    refine ⟨n, by omega, by omega, by omega, fun i h1 h2 => ⟨B1 _ _ (by omega), B1 _ _ (by omega)⟩, ?_⟩
    by_cases hnl : n = len
    · left
      have hfk : f = k := by omega
      refine ⟨hnl, ?_, by omega⟩
      have hs := (hgi U).1 (hfk ▸ hR.self)
      rw [hDv]
      split
      · rw [hround, hnl, Nat.sub_self, Nat.pow_zero, rneQ_one]
      · omega
    · right
      have hK : f + len - n = k := by omega
      rw [hK]
      have hL : low U f k = U / 10 ^ (len - n) := by unfold low; rw [hkf]
      have hit := hR.hit B2 hDr
      rw [hL] at hit
      refine ⟨by omega, hit, fun a b ha hb => ⟨0, ?_, by omega⟩⟩
      rw [Nat.pow_zero, Nat.one_mul]
      rw [hgi] at ha hb
      rw [hgi, hgi] at hit
      unfold takeD
      by_cases hlt : lo < hi
      · have hDe : D = rneQ U (10 ^ (len - n)) := by rw [hDv, if_pos hlt, hround]
        have hDin := (hgi D).1 hDr
        rcases round_two U (10 ^ (len - n)) with h2 | h2
        · rw [h2] at hDe ⊢
          by_cases h1 : a = true
          · rw [if_pos h1, ite_self, hDe]
          · exact absurd (ha.2 (by rw [← hDe]; exact hDin)) h1
        · rw [h2] at hDe ⊢
          have hbt : b = true := hb.2 (by rw [← hDe]; exact hDin)
          rw [if_pos hbt, ite_self, hDe]
      · have hDe : D = lo := by rw [hDv, if_neg hlt]
        by_cases h1 : a = true
        · have h2 := ha.1 h1
          have h3 : ¬ b = true := fun h => by have := hb.1 h; omega
          rw [if_pos h1, if_neg h3]
          omega
        · rw [if_neg h1]
          rcases hit with h | h
          · exact absurd (ha.2 h) h1
          · omega
end Go.Proofs.YtkjpelgdppmbjaaGreatDoor.HL
namespace Go.Proofs.YtkjpelgdppmbjaaGreatDoor.SF
open CQ HA HB HC HD HF

theorem getD_of_mem {ds : List Nat} (h : ∀ d ∈ ds, d < 10) (i : Nat) : ds.getD i 0 < 10 := by
  by_cases hi : i < ds.length
  · rw [List.getD_eq_getElem?_getD, List.getElem?_eq_getElem hi]; exact h _ (List.getElem_mem hi)
  · rw [List.getD_eq_getElem?_getD, List.getElem?_eq_none (by omega)]; decide
theorem shape_plain {y m : Nat} {e : Int} (hw : Word y m e) : Shape y m e (kOf m e) (loF m e) (hiF m e) (rF m e) := by
  have hlt := hw.lt
  have he1 := hw.lo
  have he2 := hw.hi
  by_cases hs : m = 4503599627370496 ∧ e ≠ -1074
  · obtain ⟨rfl, he⟩ := hs
    obtain ⟨k, hk⟩ : ∃ k, k = skw e := ⟨_, rfl⟩
    have hk1 : -330 ≤ k ∧ k ≤ 310 := by rw [hk]; unfold skw; omega
    obtain ⟨q1, q2, q3⟩ := pow_skw (e := e) (by omega) he2
    rw [← hk] at q1 q2 q3
    have hQ := unitQ_pos e k
    have hgrid := grid_skew hw he q1 q2
    have hmid := mid_round (A := 4503599627370496 * unitT e k) hQ
    have hrhi : rneQ (4503599627370496 * unitT e k) (unitQ e k) ≤ hiS (unitT e k) (unitQ e k) := by
      have := hmid.lo
      refine (le_floor (by omega)).2 ?_
      rw [show rneQ (4503599627370496 * unitT e k) (unitQ e k) * (2 * unitQ e k) = 2 * (rneQ (4503599627370496 * unitT e k) (unitQ e k) * unitQ e k) by ac_rfl]
      omega
    obtain ⟨t1, t2, t3⟩ := the_skew he hk
    unfold rF
    rw [← t1, ← t2, ← t3]
    exact ⟨hgrid, rfl, fun h => ⟨by rcases q3 with q3 | q3 <;> omega, hrhi⟩, by omega, q2, hk1.1, hk1.2, by omega, ⟨t1, t2, t3⟩⟩
  · obtain ⟨k, hk⟩ : ∃ k, k = l10 e := ⟨_, rfl⟩
    have hk1 : -330 ≤ k ∧ k ≤ 310 := by rw [hk]; unfold l10; omega
    have hpw := pow_l10 he1 he2
    rw [← hk] at hpw
    have hQ := unitQ_pos e k
    have hgrid := grid_reg hw hs hpw.1 hpw.2
    have hrin := HD.round_in hw.ne hQ hpw.1
    have htop : m * unitT e k < 100000000000000000 * unitQ e k := by
      have := Nat.mul_le_mul_right (unitT e k) (show m ≤ 9007199254740991 by omega)
      omega
    obtain ⟨t1, t2, t3⟩ := the_norm hs hk
    unfold rF
    rw [← t1, ← t2, ← t3]
    exact ⟨hgrid, rfl, fun _ => hrin, hpw.1, by omega, hk1.1, hk1.2, htop, ⟨t1, t2, t3⟩⟩
/-- The fewest figures are what the reference's search finds. -/
theorem found_best {y m U len : Nat} {e f : Int} (hw : Word y m e) (hx : y < 9218868437227405312) (hr : Ieee.double.read y = .number false m e) (hU : U % 10 ≠ 0) (hv : (U * 10 ^ f.toNat) * 2 ^ (-e).toNat = (m * 2 ^ e.toNat) * 10 ^ (-f).toNat)
    (hl1 : 1 ≤ len) (hl2 : 10 ^ (len - 1) ≤ U) (hl3 : U < 10 ^ len) : HL.Found y U len f (bestU m e) (bestF m e) ∧ bestU m e % 10 ≠ 0 := by
  have sh := shape_plain hw
  obtain ⟨b1, b2, b3, b4⟩ := best_range hw sh
  obtain ⟨hg, hten, hlen, hK, t, h1, h2, h3⟩ := left_figs (V := bestD m e) (by omega) (by omega)
  have hu : bestU m e % 10 ≠ 0 := last_mod hg (getD_of_mem hten)
  refine ⟨?_, hu⟩
  have hD : pickD (loF m e) (hiF m e) (rF m e) = 10 ^ t * bestU m e := by
    rw [Nat.mul_comm]; exact h2
  have h := HL.found (t := t) hw (HL.read_of hx hr hw.ne hU hv) hv sh hl1 hl2 hl3 hD hu
  have e1 : pickK (loF m e) (hiF m e) (kOf m e) + t = bestF m e := by
    unfold bestF
    rw [h3]
    show bestK m e + (t : Int) = _
    omega
  rw [e1] at h
  exact h
end Go.Proofs.YtkjpelgdppmbjaaGreatDoor.SF
namespace Go.Proofs.YtkjpelgdppmbjaaGreatDoor.HL
open CQ HA HB HD SF

theorem none_above {y m U u t : Nat} {e f k : Int} {lo hi r : Nat} (hR : HB.Read (Reads y) U f) (sh : Shape y m e k lo hi r) (hD : pickD lo hi r = 10 ^ t * u) (hu : u % 10 ≠ 0) : ∀ K D, pickK lo hi k + t < K → ¬ Reads y K D := by
  have hgi := sh.grid.iff
  have hle := sh.grid.le
  by_cases hA : lo ≤ hi / 10 * 10
  · have hDe : hi / 10 = 10 ^ t * u := by rw [← hD]; unfold pickD; rw [if_pos hA]
    have hKe : pickK lo hi k = k + 1 := by unfold pickK; rw [if_pos hA]
    rw [hKe]
    have hPt : Reads y (k + 1) (10 ^ t * u) := by
      rw [← hDe]
      refine (hR.ten k _).2 ((hgi _).2 ⟨by omega, by omega⟩)
    exact (sh.grid.one hR hu hPt).1
  · have hn : ∀ s, ¬ Reads y (k + 1) s := fun s h => by
      have h1 := (hgi _).1 ((hR.ten k s).1 h)
      omega
    obtain ⟨B1, B2⟩ := Grid.none hR hn
    have hKe : pickK lo hi k = k := by unfold pickK; rw [if_neg hA]
    rw [hKe]
    intro K D hK
    exact B1 K D (by omega)
theorem len_of : ∀ (n U : Nat), U ≤ n → U ≠ 0 → ∃ len, 1 ≤ len ∧ 10 ^ (len - 1) ≤ U ∧ U < 10 ^ len := by
  intro n
  induction n with
  | zero => intro U h h0; omega
  | succ n ih =>
    intro U h h0
    by_cases h1 : U < 10
    · exact ⟨1, by omega, by rw [Nat.sub_self, Nat.pow_zero]; omega, by omega⟩
    · obtain ⟨l, a, b, c⟩ := ih (U / 10) (by omega) (by omega)
      refine ⟨l + 1, by omega, ?_, ?_⟩
      · rw [show l + 1 - 1 = l - 1 + 1 by omega, Nat.pow_succ]; omega
      · rw [Nat.pow_succ]; omega
/-- The exact figures of a number. -/
theorem exact_of {m : Nat} (hm : m ≠ 0) (e : Int) : ∃ (U : Nat) (f : Int), U % 10 ≠ 0 ∧ (U * 10 ^ f.toNat) * 2 ^ (-e).toNat = (m * 2 ^ e.toNat) * 10 ^ (-f).toNat := by
  have hp : ∀ b n : Nat, 0 < b → 0 < b ^ n := fun b n h => Nat.pow_pos h
  rcases Int.lt_or_le e 0 with h | h
  · obtain ⟨n, rfl⟩ : ∃ n : Nat, e = -(n : Int) := ⟨(-e).toNat, by omega⟩
    obtain ⟨q, j, h1, h2⟩ := tail_off (m * 5 ^ n) (m * 5 ^ n) (Nat.le_refl _) (Nat.ne_of_gt (Nat.mul_pos (by omega) (hp 5 n (by omega))))
    refine ⟨q, (j : Int) - n, h2, ?_⟩
    rw [show (- -(n : Int)).toNat = n by omega, show (-(n : Int)).toNat = 0 by omega, Nat.pow_zero, Nat.mul_one]
    apply Nat.eq_of_mul_eq_mul_right (hp 10 j (by omega))
    have e1 : 10 ^ ((j : Int) - n).toNat * 10 ^ n = 10 ^ (-((j : Int) - n)).toNat * 10 ^ j := by
      rw [← Nat.pow_add, ← Nat.pow_add]
      congr 1
      omega
    apply Nat.eq_of_mul_eq_mul_right (hp 10 n (by omega))
    have e2 : (10 : Nat) ^ n = 5 ^ n * 2 ^ n := by rw [← Nat.mul_pow]
    calc q * 10 ^ ((j : Int) - n).toNat * 2 ^ n * 10 ^ j * 10 ^ n = (10 ^ j * q) * 2 ^ n * (10 ^ ((j : Int) - n).toNat * 10 ^ n) := by ac_rfl
      _ = m * (5 ^ n * 2 ^ n) * (10 ^ (-((j : Int) - n)).toNat * 10 ^ j) := by rw [← h1, e1]; ac_rfl
      _ = m * 10 ^ (-((j : Int) - n)).toNat * 10 ^ j * 10 ^ n := by rw [← e2]; ac_rfl
  · obtain ⟨q, j, h1, h2⟩ := tail_off (m * 2 ^ e.toNat) (m * 2 ^ e.toNat) (Nat.le_refl _) (Nat.ne_of_gt (Nat.mul_pos (by omega) (hp 2 e.toNat (by omega))))
    refine ⟨q, j, h2, ?_⟩
    rw [show (-e).toNat = 0 by omega, show (-(j : Int)).toNat = 0 by omega, Nat.pow_zero, Nat.mul_one, Nat.mul_one, h1, Int.toNat_natCast, Nat.mul_comm]
end Go.Proofs.YtkjpelgdppmbjaaGreatDoor.HL
namespace Go.Proofs.YtkjpelgdppmbjaaGreatDoor.SF
open CQ HA HB HC HD HF

/-- What the fewest figures of a number are. -/
structure Best (y U : Nat) (f : Int) : Prop where mk ::
  reads : Reads y f U
  last : U % 10 ≠ 0
  few : U < 10 ^ 17
  low : -350 ≤ f
  high : f ≤ 350
  above : ∀ K D, f < K → ¬ Reads y K D
theorem best_facts {y m : Nat} {e : Int} (hw : Word y m e) (hx : y < 9218868437227405312) (hr : Ieee.double.read y = .number false m e) : Best y (bestU m e) (bestF m e) := by
  obtain ⟨U, f, hU, hv⟩ := HL.exact_of hw.ne e
  obtain ⟨len, hl1, hl2, hl3⟩ := HL.len_of U U (Nat.le_refl _) (fun h => by subst h; exact hU rfl)
  obtain ⟨F, hu⟩ := found_best hw hx hr hU hv hl1 hl2 hl3
  have hR := HL.read_of hx hr hw.ne hU hv
  have sh := shape_plain hw
  obtain ⟨b1, b2, b3, b4⟩ := best_range hw sh
  obtain ⟨hg, hten, hlen, hK, t, h1, h2, h3⟩ := left_figs (V := bestD m e) (by omega) (by omega)
  have hD : pickD (loF m e) (hiF m e) (rF m e) = 10 ^ t * bestU m e := by
    rw [Nat.mul_comm]; exact h2
  have e1 : pickK (loF m e) (hiF m e) (kOf m e) + t = bestF m e := by
    unfold bestF
    rw [h3]
    show bestK m e + (t : Int) = _
    omega
  have hno := HL.none_above (t := t) hR sh hD hu
  rw [e1] at hno
  generalize bestU m e = u at *
  generalize bestF m e = g at *
  obtain ⟨f1, f2, n, n1, n2, n3, n4, n5⟩ := F
  have hp : ∀ n : Nat, 0 < 10 ^ n := fun n => Nat.pow_pos (by omega)
  have hten17 : (10 : Nat) ^ n ≤ 10 ^ 17 := Nat.pow_le_pow_right (by omega) n2
  rcases n5 with ⟨rfl, rfl, rfl⟩ | ⟨g1, g2, g3⟩
  · exact ⟨hR.self, hu, by omega, by omega, by omega, hno⟩
  · have hK0 : f + (len : Int) - n = f + ((len - n : Nat) : Int) := by omega
    have hL : U / 10 ^ (len - n) < 10 ^ n := by rw [Nat.div_lt_iff_lt_mul (hp _), ← Nat.pow_add, show n + (len - n) = len by omega]; exact hl3
    have hdec : ∀ P : Prop, ∃ b : Bool, (b = true ↔ P) := fun P => by
      by_cases h : P
      · exact ⟨true, by simp [h]⟩
      · exact ⟨false, by simp [h]⟩
    obtain ⟨a, ha⟩ := hdec (Reads y (f + len - n) (U / 10 ^ (len - n)))
    obtain ⟨b, hb⟩ := hdec (Reads y (f + len - n) (U / 10 ^ (len - n) + 1))
    obtain ⟨j, j1, j2⟩ := g3 a b ha hb
    have htake : Reads y (f + len - n) (HL.takeD a b (U / 10 ^ (len - n)) (rneQ U (10 ^ (len - n)))) ∧ HL.takeD a b (U / 10 ^ (len - n)) (rneQ U (10 ^ (len - n))) ≤ 10 ^ n := by
      unfold HL.takeD
      by_cases h1 : a = true
      · rw [if_pos h1]
        by_cases h2 : b = true
        · rw [if_pos h2]
          rcases HL.round_two U (10 ^ (len - n)) with h | h
          · rw [h]; exact ⟨ha.1 h1, by omega⟩
          · rw [h]; exact ⟨hb.1 h2, by omega⟩
        · rw [if_neg h2]; exact ⟨ha.1 h1, by omega⟩
      · rw [if_neg h1]
        refine ⟨?_, by omega⟩
        rcases g2 with h | h
        · exact absurd (ha.2 h) h1
        · exact h
    rw [j1] at htake
    obtain ⟨q1, q2⟩ := htake
    have hj17 : 10 ^ j * u ≤ 10 ^ 17 := Nat.le_trans q2 hten17
    have hu0 : u ≠ 0 := fun h => by subst h; exact hu rfl
    have hj : j ≤ 17 := by
      rcases Nat.lt_or_ge 17 j with h | h
      · exfalso
        have h3 : 10 ^ 18 ≤ 10 ^ j := Nat.pow_le_pow_right (by omega) h
        have h4 : 10 ^ j ≤ 10 ^ j * u := Nat.le_mul_of_pos_right _ (by omega)
        omega
      · exact h
    refine ⟨?_, hu, ?_, by omega, by omega, hno⟩
    · rw [← j2]; exact (hR.up _ j u).2 q1
    · have h4 : u ≤ 10 ^ j * u := Nat.le_mul_of_pos_left _ (hp j)
      have h5 : u ≠ 10 ^ 17 := fun h => by rw [h] at hu; exact hu (by decide)
      omega
/-- A finite number without its sign. -/
theorem read_pos {x M : Nat} {s : Bool} {e : Int} (hx : x < 18446744073709551616) (hr : Ieee.double.read x = .number s M e) (hM : M ≠ 0) : Word (x % 9223372036854775808) M e ∧ x % 9223372036854775808 < 9218868437227405312 ∧ Ieee.double.read (x % 9223372036854775808) = .number false M e := by
  obtain ⟨_, hM2, he1, he2, hfull, henc, _⟩ := CG.read_num hx hr
  have hlt : (e + 1074).toNat * 4503599627370496 + M < 9223372036854775808 := by omega
  have hy : x % 9223372036854775808 = (e + 1074).toNat * 4503599627370496 + M := by
    have h := henc
    unfold CR.enc at h
    split at h <;> omega
  have hr2 := CN.read_enc false M e hM2 he1 he2 hfull
  have hen : CR.enc false ((e + 1074).toNat * 4503599627370496 + M) = x % 9223372036854775808 := by
    rw [hy]
    unfold CR.enc
    rw [if_neg (by decide)]
    try omega
  rw [hen] at hr2
  exact ⟨word_of hx hr hM, by rw [hy]; omega, hr2⟩
theorem best_of {x M : Nat} {s : Bool} {e : Int} (hx : x < 18446744073709551616) (hr : Ieee.double.read x = .number s M e) (hM : M ≠ 0) : Best (x % 9223372036854775808) (bestU M e) (bestF M e) := by
  obtain ⟨h1, h2, h3⟩ := read_pos hx hr hM
  exact best_facts h1 h2 h3
end Go.Proofs.YtkjpelgdppmbjaaGreatDoor.SF
