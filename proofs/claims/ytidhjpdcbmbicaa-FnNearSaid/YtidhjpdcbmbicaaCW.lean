/- Sums of numbers of 64 bits in least units, and what a rounded sum loses: plain lemmas. No condition beyond those typed. -/
import Derived.Test.YtidhjpdcbmbicaaCV
namespace Go.Proofs.Ytidhjpdcbmbicaa.CW
open Ieee Go.Proofs.Ytidhjpdcbmbicaa.CR Go.Proofs.Ytidhjpdcbmbicaa.CF Go.Proofs.Ytidhjpdcbmbicaa.CG Go.Proofs.Ytidhjpdcbmbicaa.CH Go.Proofs.Ytidhjpdcbmbicaa.CN Go.Proofs.Ytidhjpdcbmbicaa.CV

/-- A number rounded to 53 figures. -/
def rnd (v : Nat) : Nat := if v.log2 ≤ 52 then v else rne v (v.log2 - 52) * 2 ^ (v.log2 - 52)
theorem rnd_kept {v : Nat} (h : 53 ≤ v.log2) : 4503599627370496 ≤ rne v (v.log2 - 52) ∧ rne v (v.log2 - 52) ≤ 9007199254740992 := by
  have h0 : v ≠ 0 := by intro hz; rw [hz] at h; exact absurd h (by decide)
  constructor
  · exact rne_ge v _ 52 (by rw [show 52 + (v.log2 - 52) = v.log2 by omega]; exact log_le h0)
  · exact rne_le v _ 53 (by rw [show 53 + (v.log2 - 52) = v.log2 + 1 by omega]; exact lt_log v)
theorem rep_le {m : Nat} (e : Nat) (h : m ≤ 9007199254740992) : rep (m * 2 ^ e) := by
  rcases Nat.lt_or_eq_of_le h with h1 | h1
  · exact ⟨m, e, h1, rfl⟩
  · exact ⟨1, 53 + e, by decide, by rw [h1, Nat.pow_add, Nat.one_mul]⟩
theorem rnd_rep (v c : Nat) : rep (rnd v * 2 ^ c) := by
  unfold rnd
  by_cases h : v.log2 ≤ 52
  · rw [if_pos h]
    exact rep_le c (Nat.le_of_lt (Nat.lt_of_lt_of_le (lt_log v) (Nat.le_trans (Nat.pow_le_pow_right (by decide) (show v.log2 + 1 ≤ 53 by omega)) (Nat.le_of_eq rfl))))
  · rw [if_neg h, Nat.mul_assoc, ← Nat.pow_add]
    exact rep_le _ (rnd_kept (by omega)).2
/-- A number's word is its rounded number's. -/
theorem wd_rnd (v c : Nat) (hlim : v.log2 + c ≤ 2096) : wd (v * 2 ^ c) = wd (rnd v * 2 ^ c) := by
  unfold rnd
  by_cases h : v.log2 ≤ 52
  · rw [if_pos h]
  · rw [if_neg h]
    have h53 : 53 ≤ v.log2 := by omega
    have h0 : v ≠ 0 := by intro hz; rw [hz] at h53; exact absurd h53 (by decide)
    obtain ⟨k1, k2⟩ := rnd_kept h53
    generalize hk : v.log2 - 52 = k at *
    have hs1 := near_scale false v c ((c : Int) - 1074) h0
    have hs2 := near_scale false (rne v k) (k + c) ((k + c : Nat) - 1074 : Int) (by omega)
    rw [show ((c : Int) - 1074 - (c : Int)) = -1074 by omega] at hs1
    rw [show (((k + c : Nat) : Int) - 1074 - ((k + c : Nat) : Int)) = -1074 by omega, Nat.pow_add, ← Nat.mul_assoc] at hs2
    unfold wd
    rw [hs1, hs2]
    have hl : lastP v ((c : Int) - 1074) = ((k + c : Nat) : Int) - 1074 := by unfold lastP; omega
    rw [near_down false v _ h0 (by rw [hl]; omega), hl, show (((k + c : Nat) : Int) - 1074 - ((c : Int) - 1074)).toNat = k by omega]
    have hpk : packN false (((k + c : Nat) : Int) - 1074) (rne v k) = enc false ((k + c) * 4503599627370496 + rne v k) := by
      unfold packN
      rw [show (((k + c : Nat) : Int) - 1074 + 1074).toNat = k + c by omega, Nat.min_eq_left (by omega)]
    rw [hpk]
    rcases Nat.lt_or_eq_of_le k2 with h1 | h1
    · rw [near_self h1 (by omega) (by omega) (fun _ => k1) (fun h => by omega), show (((k + c : Nat) : Int) - 1074 + 1074).toNat = k + c by omega]
    · have hs3 := near_scale false 4503599627370496 1 (((k + c + 1 : Nat) : Int) - 1074) (by omega)
      rw [show ((k + c + 1 : Nat) : Int) - 1074 - ((1 : Nat) : Int) = ((k + c : Nat) : Int) - 1074 by omega] at hs3
      rw [h1, show (9007199254740992 : Nat) = 4503599627370496 * 2 ^ 1 by decide, hs3, near_self (by omega) (by omega) (by omega) (fun _ => by omega) (fun h => by omega), show (((k + c + 1 : Nat) : Int) - 1074 + 1074).toNat = k + c + 1 by omega]
      rw [show (k + c + 1) * 4503599627370496 + 4503599627370496 = (k + c) * 4503599627370496 + 4503599627370496 * 2 ^ 1 by omega]
theorem rnd_log {v : Nat} : v.log2 ≤ (rnd v).log2 ∧ (rnd v).log2 ≤ v.log2 + 1 := by
  unfold rnd
  by_cases h : v.log2 ≤ 52
  · rw [if_pos h]; omega
  · rw [if_neg h]
    obtain ⟨k1, k2⟩ := rnd_kept (v := v) (by omega)
    have hn : rne v (v.log2 - 52) ≠ 0 := by omega
    rw [log_shift _ _ hn]
    have h1 := log_ge (n := rne v (v.log2 - 52)) (k := 52) k1
    have h2 := log_mono (n := rne v (v.log2 - 52)) (k := 54) (Nat.lt_of_le_of_lt k2 (by decide)) hn
    omega
/-- What is lost is half a place at most. -/
theorem rnd_lost {v : Nat} (h : 53 ≤ v.log2) : ∃ (q : Nat) (δ : Int), rnd v = q * 2 ^ (v.log2 - 52) ∧ (rnd v : Int) = v + δ ∧ 2 * δ.natAbs ≤ 2 ^ (v.log2 - 52) := by
  unfold rnd
  rw [if_neg (by omega)]
  generalize v.log2 - 52 = k at *
  have hd := Nat.div_add_mod v (2 ^ k)
  have hm := Nat.mod_lt v (show 0 < 2 ^ k from Nat.pow_pos (by decide))
  refine ⟨rne v k, (rne v k * 2 ^ k : Nat) - (v : Int), rfl, by omega, ?_⟩
  unfold rne
  generalize v / 2 ^ k = a at *
  generalize v % 2 ^ k = r at *
  rw [Nat.mul_comm] at hd
  generalize hP : 2 ^ k = P at *
  split
  · rename_i hc
    rw [Nat.add_mul, Nat.one_mul]
    generalize a * P = z at *
    omega
  · rename_i hc
    rw [Nat.add_zero]
    generalize a * P = z at *
    omega
/-- The differences that a sum of two numbers leaves have 53 figures. -/
theorem lost_rep (A B : Int) (m n d : Nat) (hm : m < 9007199254740992) (hn : n < 9007199254740992) (hd : d ≤ 52) (hA : A.natAbs = m * 2 ^ d) (hB : B.natAbs = n) (S : Int) (hS : S.natAbs = rnd (A + B).natAbs) (hsg : 0 ≤ S * (A + B)) (h53 : 53 ≤ (A + B).natAbs.log2) (c : Nat) :
    rep ((S - A).natAbs * 2 ^ c) ∧ rep ((A + B - S).natAbs * 2 ^ c) ∧ 2 * (A + B - S).natAbs ≤ 2 ^ ((A + B).natAbs.log2 - 52) := by
  have hT0 : (A + B).natAbs ≠ 0 := by intro hz; rw [hz] at h53; exact absurd h53 (by decide)
  obtain ⟨q, δ, h1, h2, h3⟩ := rnd_lost h53
  have hk : (A + B).natAbs.log2 - 52 ≤ d + 1 := by
    have hlt : (A + B).natAbs < 2 ^ (54 + d) := by
      have e1 : m * 2 ^ d < 9007199254740992 * 2 ^ d := Nat.mul_lt_mul_of_pos_right hm (Nat.pow_pos (by decide))
      have e2 : (2 : Nat) ^ (54 + d) = 18014398509481984 * 2 ^ d := by rw [Nat.pow_add]
      have e3 : 1 ≤ 2 ^ d := Nat.pow_pos (by decide)
      rw [e2]
      generalize 2 ^ d = P at *
      generalize m * P = z at *
      omega
    have := log_mono hlt hT0
    omega
  have hk1 : 1 ≤ (A + B).natAbs.log2 - 52 := by omega
  generalize hkk : (A + B).natAbs.log2 - 52 = k at *
  -- what is lost, with its sign
  obtain ⟨ε, hε, hε2⟩ : ∃ ε : Int, S = A + B + ε ∧ ε.natAbs = δ.natAbs := by
    refine ⟨S - (A + B), by omega, ?_⟩
    rcases Int.lt_trichotomy (A + B) 0 with hs | hs | hs
    · have hS0 : S ≤ 0 := by
        by_cases h : S ≤ 0
        · exact h
        · have := Int.mul_neg_of_pos_of_neg (show 0 < S by omega) hs; omega
      omega
    · omega
    · have hS0 : 0 ≤ S := by
        by_cases h : 0 ≤ S
        · exact h
        · have := Int.mul_neg_of_neg_of_pos (show S < 0 by omega) hs; omega
      omega
  have hSd : ∃ z : Int, S = z * ((2 ^ k : Nat) : Int) := by
    rcases Int.le_total 0 S with h | h
    · refine ⟨(q : Int), ?_⟩
      rw [← Int.natCast_mul, ← h1, ← hS]; omega
    · refine ⟨-(q : Int), ?_⟩
      rw [Int.neg_mul, ← Int.natCast_mul, ← h1, ← hS]; omega
  have hAd : ∃ z : Int, A = z * ((2 ^ d : Nat) : Int) := by
    rcases Int.le_total 0 A with h | h
    · refine ⟨(m : Int), ?_⟩
      rw [← Int.natCast_mul, ← hA]; omega
    · refine ⟨-(m : Int), ?_⟩
      rw [Int.neg_mul, ← Int.natCast_mul, ← hA]; omega
  obtain ⟨zs, hzs⟩ := hSd
  obtain ⟨za, hza⟩ := hAd
  have hb : (S - A).natAbs ≤ n + δ.natAbs := by omega
  have hpow : ∀ e : Nat, 1 ≤ 2 ^ e := fun e => Nat.pow_pos (by decide)
  refine ⟨?_, ?_, ?_⟩
  · by_cases hkd : k ≤ d
    · obtain ⟨e, rfl⟩ : ∃ e, d = k + e := ⟨d - k, by omega⟩
      have hz : S - A = (zs - za * ((2 ^ e : Nat) : Int)) * ((2 ^ k : Nat) : Int) := by
        rw [hzs, hza, Int.sub_mul, Int.mul_assoc za, ← Int.natCast_mul, ← Nat.pow_add, Nat.add_comm e k]
      have hz2 : (S - A).natAbs = (zs - za * ((2 ^ e : Nat) : Int)).natAbs * 2 ^ k := by rw [hz, Int.natAbs_mul, Int.natAbs_natCast]
      generalize (zs - za * ((2 ^ e : Nat) : Int)).natAbs = z at *
      rw [hz2, Nat.mul_assoc, ← Nat.pow_add]
      refine rep_le _ ?_
      rcases Nat.lt_or_ge 9007199254740992 z with h | h
      · exfalso
        have h5 : 9007199254740993 * 2 ^ k ≤ z * 2 ^ k := Nat.mul_le_mul_right _ h
        have h6 := hpow k
        rw [hz2] at hb
        generalize 2 ^ k = P at *
        generalize z * P = y at *
        omega
      · exact h
    · obtain rfl : k = d + 1 := by omega
      have hz : S - A = (zs * 2 - za) * ((2 ^ d : Nat) : Int) := by
        rw [hzs, hza, Int.sub_mul, Nat.pow_succ, Int.mul_assoc zs, Nat.mul_comm (2 ^ d) 2, Int.natCast_mul]; rfl
      have hz2 : (S - A).natAbs = (zs * 2 - za).natAbs * 2 ^ d := by rw [hz, Int.natAbs_mul, Int.natAbs_natCast]
      generalize (zs * 2 - za).natAbs = z at *
      rw [hz2, Nat.mul_assoc, ← Nat.pow_add]
      refine rep_le _ ?_
      rcases Nat.lt_or_ge 9007199254740992 z with h | h
      · exfalso
        have h5 : 9007199254740993 * 2 ^ d ≤ z * 2 ^ d := Nat.mul_le_mul_right _ h
        have h6 := hpow d
        rw [Nat.pow_succ] at h3
        rw [hz2] at hb
        generalize 2 ^ d = P at *
        generalize z * P = y at *
        omega
      · exact h
  · refine rep_le _ ?_
    have h7 : (2 : Nat) ^ k ≤ 2 ^ 53 := Nat.pow_le_pow_right (by decide) (by omega)
    have h8 : (2 : Nat) ^ 53 = 9007199254740992 := rfl
    rw [h8] at h7
    generalize (2 : Nat) ^ k = P at *
    clear hpow hzs hza hS h1 h2 hA
    omega
  · have : (A + B - S).natAbs = δ.natAbs := by rw [← hε2]; omega
    rw [this]
    exact h3
theorem near_true (M : Nat) (E : Int) : double.nearest true M E = negT (double.nearest false M E) := by
  have h : ∀ r : Nat, r ≤ 9218868437227405312 → enc true r = negT (enc false r) := by
    intro r hr
    unfold enc negT
    simp only [if_true, Bool.false_eq_true, if_false]
    rw [if_neg (by omega), Nat.add_comm]
  by_cases h0 : M = 0
  · subst h0; rw [near_zero, near_zero]; exact h 0 (by omega)
  · rw [near_eq true M E h0, near_eq false M E h0]
    exact h _ (Nat.min_le_right ..)
/-- A sum in least units. -/
theorem add_val {x y m n : Nat} {s t : Bool} {i j : Int} (hi : -1074 ≤ i) (hj : -1074 ≤ j) (hx : double.read x = .number s m i) (hy : double.read y = .number t n j) :
    (sg s (magV m i) + sg t (magV n j) ≠ 0 → addT x y = double.nearest (decide (sg s (magV m i) + sg t (magV n j) < 0)) (sg s (magV m i) + sg t (magV n j)).natAbs (-1074)) ∧ (sg s (magV m i) + sg t (magV n j) = 0 → ∃ b, addT x y = enc b 0) := by
  unfold addT Format.add
  rw [hx, hy]
  unfold Datum.sum
  simp only [Option.map_some, Option.getD_some]
  unfold Format.write
  simp only
  have hk : (signed s m (i - min i j).toNat + signed t n (j - min i j).toNat) * ((2 ^ (min i j + 1074).toNat : Nat) : Int) = sg s (magV m i) + sg t (magV n j) := by
    have h1 : ∀ (b : Bool) (m : Nat) (e : Int), min i j ≤ e → signed b m (e - min i j).toNat * ((2 ^ (min i j + 1074).toNat : Nat) : Int) = sg b (magV m e) := by
      intro b m e he
      rw [signed_sg]
      unfold magV
      rw [Int.mul_assoc, ← Int.natCast_mul, ← Nat.pow_add, show (e - min i j).toNat + (min i j + 1074).toNat = (e + 1074).toNat by omega]
      unfold sg
      cases b
      · simp
      · simp [Int.neg_mul]
    rw [Int.add_mul, h1 s m i (by omega), h1 t n j (by omega)]
  rw [← hk]
  generalize signed s m (i - min i j).toNat + signed t n (j - min i j).toNat = T at *
  have hp : 0 < 2 ^ (min i j + 1074).toNat := Nat.pow_pos (by decide)
  constructor
  · intro h0
    have hT : T ≠ 0 := by intro h; rw [h, Int.zero_mul] at h0; exact h0 rfl
    have h4 : decide (T * ((2 ^ (min i j + 1074).toNat : Nat) : Int) < 0) = decide (T < 0) := by
      rw [decide_eq_decide]
      constructor
      · intro h5
        by_cases h6 : T < 0
        · exact h6
        · have := Int.mul_nonneg (show 0 ≤ T by omega) (Int.natCast_nonneg (2 ^ (min i j + 1074).toNat)); omega
      · intro h5
        exact Int.mul_neg_of_neg_of_pos h5 (by omega)
    rw [if_neg hT, h4, Int.natAbs_mul, Int.natAbs_natCast]
    have hs := near_scale (decide (T < 0)) T.natAbs (min i j + 1074).toNat (min i j) (by omega)
    rw [show min i j - (((min i j + 1074).toNat : Nat) : Int) = -1074 by omega] at hs
    exact hs.symm
  · intro h0
    have hT : T = 0 := by
      rcases Int.mul_eq_zero.1 h0 with h | h
      · exact h
      · omega
    rw [hT, if_pos rfl, Int.natAbs_zero]
    exact ⟨_, near_zero _ _⟩
theorem near_number (b : Bool) {V : Nat} (hV : fits V) : ∃ (m : Nat) (e : Int), double.read (double.nearest b V (-1074)) = .number b m e ∧ -1074 ≤ e ∧ magV m e = V ∧ (52 ≤ V.log2 → e = (V.log2 : Int) - 52 - 1074) := by
  have hw : ∃ (m : Nat) (e : Int), double.read (wd V) = .number false m e ∧ -1074 ≤ e ∧ magV m e = V ∧ (52 ≤ V.log2 → e = (V.log2 : Int) - 52 - 1074) := by
    by_cases hL : 52 ≤ V.log2
    · obtain ⟨_, h2⟩ := wd_high hV hL
      obtain ⟨m, e, h3, h4, h5, _⟩ := wd_read hV
      rw [h2] at h3
      injection h3 with _ h6 h7
      subst h6 h7
      exact ⟨_, _, h2, h4, h5, fun _ => rfl⟩
    · obtain ⟨m, e, h3, h4, h5, _⟩ := wd_read hV
      exact ⟨m, e, h3, h4, h5, fun h => absurd h hL⟩
  obtain ⟨m, e, h1, h2, h3, h4⟩ := hw
  refine ⟨m, e, ?_, h2, h3, h4⟩
  cases b
  · exact h1
  · rw [near_true]
    show double.read (negT (wd V)) = _
    rw [negT_read _ (Nat.lt_trans (wd_lt V) (by decide)), h1]; rfl
theorem enc_number (b : Bool) : double.read (enc b 0) = .number b 0 (-1074) := by
  have := read_enc b 0 (-1074) (by omega) (by omega) (by omega) (fun h => absurd rfl h)
  exact this
/-- A sum that has 53 figures is just. -/
theorem sum_just {x y m n : Nat} {s t : Bool} {i j : Int} {T : Int} (hi : -1074 ≤ i) (hj : -1074 ≤ j) (hx : double.read x = .number s m i) (hy : double.read y = .number t n j) (hT : sg s (magV m i) + sg t (magV n j) = T) (hf : fits T.natAbs) :
    ∃ (b : Bool) (k : Nat) (e : Int), double.read (addT x y) = .number b k e ∧ -1074 ≤ e ∧ sg b (magV k e) = T := by
  obtain ⟨h1, h2⟩ := add_val hi hj hx hy
  rw [hT] at h1 h2
  by_cases h : T = 0
  · obtain ⟨b, hb⟩ := h2 h
    refine ⟨b, 0, -1074, by rw [hb]; exact enc_number b, by omega, ?_⟩
    have : magV 0 (-1074) = 0 := Nat.zero_mul _
    rw [this, h]
    cases b <;> rfl
  · rw [h1 h]
    obtain ⟨k, e, q1, q2, q3, _⟩ := near_number (decide (T < 0)) hf
    refine ⟨_, k, e, q1, q2, ?_⟩
    rw [q3, ← sg_int]
theorem opp_number {x m : Nat} {s : Bool} {i : Int} (hx : x < 18446744073709551616) (h : double.read x = .number s m i) : double.read (negT x) = .number (!s) m i ∧ sg (!s) (magV m i) = -sg s (magV m i) := by
  refine ⟨by rw [negT_read x hx, h]; rfl, ?_⟩
  unfold sg
  cases s <;> simp
theorem sg_mul (b : Bool) (M p : Nat) : sg b (M * p) = sg b M * (p : Int) := by
  unfold sg
  cases b
  · simp
  · simp [Int.neg_mul]
theorem sg_abs (b : Bool) (M : Nat) : (sg b M).natAbs = M := by unfold sg; cases b <;> simp
theorem near_rnd (b : Bool) (v c : Nat) (hlim : v.log2 + c ≤ 2096) : double.nearest b (v * 2 ^ c) (-1074) = double.nearest b (rnd v * 2 ^ c) (-1074) := by
  have h := wd_rnd v c hlim
  cases b
  · exact h
  · rw [near_true, near_true]; exact congrArg negT h
theorem addT_lt (x y : Nat) : addT x y < 18446744073709551616 := by
  unfold addT
  cases h : double.add x y with
  | none => exact (by decide : nanW < 18446744073709551616)
  | some r => exact (add_some h).2
theorem fits_of {v c : Nat} (h : rep (v * 2 ^ c)) (hv : v < 2 ^ 110) (hc : c ≤ 1974) : fits (v * 2 ^ c) := by
  refine ⟨h, ?_⟩
  by_cases h0 : v = 0
  · subst h0; rw [Nat.zero_mul]; decide
  · have := log_mono hv h0
    rw [log_shift v c h0]
    omega
theorem magV_zero {m : Nat} {e : Int} (h : magV m e = 0) : m = 0 := by
  unfold magV at h
  rcases Nat.mul_eq_zero.1 h with h1 | h1
  · exact h1
  · have : 0 < 2 ^ (e + 1074).toNat := Nat.pow_pos (by decide)
    omega
theorem sg_zero {b : Bool} {M : Nat} (h : sg b M = 0) : M = 0 := by unfold sg at h; cases b <;> simp at h <;> exact h
theorem rnd_zero {v : Nat} (h0 : v ≠ 0) : rnd v ≠ 0 := by
  unfold rnd
  by_cases h : v.log2 ≤ 52
  · rw [if_pos h]; exact h0
  · rw [if_neg h]
    have := (rnd_kept (v := v) (by omega)).1
    exact Nat.mul_ne_zero (by omega) (Nat.ne_of_gt (Nat.pow_pos (by decide)))
theorem sum_lt {A B : Int} {m n d : Nat} (hA : A.natAbs = m * 2 ^ d) (hB : B.natAbs = n) (hm : m < 9007199254740992) (hn : n < 9007199254740992) : (A + B).natAbs < 2 ^ (54 + d) := by
  have e1 : m * 2 ^ d < 9007199254740992 * 2 ^ d := Nat.mul_lt_mul_of_pos_right hm (Nat.pow_pos (by decide))
  have e2 : (2 : Nat) ^ (54 + d) = 18014398509481984 * 2 ^ d := by rw [Nat.pow_add]
  have e3 : 1 ≤ 2 ^ d := Nat.pow_pos (by decide)
  rw [e2]
  generalize 2 ^ d = P at *
  generalize m * P = z at *
  omega
theorem sign_same {S T : Int} (h : S.natAbs = T.natAbs) (hsg : 0 ≤ S * T) : S = T := by
  rcases Int.lt_trichotomy T 0 with hs | hs | hs
  · have hS0 : S ≤ 0 := by
      by_cases h : S ≤ 0
      · exact h
      · have := Int.mul_neg_of_pos_of_neg (show 0 < S by omega) hs; omega
    omega
  · omega
  · have hS0 : 0 ≤ S := by
      by_cases h : 0 ≤ S
      · exact h
      · have := Int.mul_neg_of_neg_of_pos (show S < 0 by omega) hs; omega
    omega
theorem far_lt {A B S : Int} {n : Nat} (h : (A + B - S).natAbs < 2 ^ 54) (hB : B.natAbs = n) (hn : n < 9007199254740992) : (S - A).natAbs < 2 ^ 110 := by
  have h54 : (2 : Nat) ^ 54 = 18014398509481984 := rfl
  have e110 : (2 : Nat) ^ 110 = 1298074214633706907132624082305024 := rfl
  rw [h54] at h
  rw [e110]
  omega
/-- What a sum of two numbers loses is told just by the difference of its parts. -/
theorem near_sum {a b m n : Nat} {s t : Bool} {i j : Int} (ha : a < 18446744073709551616) (hb : b < 18446744073709551616) (hra : double.read a = .number s m i) (hrb : double.read b = .number t n j) (hij : j ≤ i) (hd : i - j ≤ 52) (hi9 : i ≤ 900) :
    ∃ (b1 : Bool) (m1 : Nat) (e1 : Int) (b2 : Bool) (m2 : Nat) (e2 : Int) (b3 : Bool) (m3 : Nat) (e3 : Int), double.read (addT a b) = .number b1 m1 e1 ∧ double.read (addT (addT a b) (negT a)) = .number b2 m2 e2 ∧ double.read (addT b (negT (addT (addT a b) (negT a)))) = .number b3 m3 e3 ∧ (m1 = 0 ∨ addT (addT a b) (addT b (negT (addT (addT a b) (negT a)))) = addT a b) ∧ (m1 = 0 → m3 = 0 ∧ ∃ b4, addT (addT a b) (addT b (negT (addT (addT a b) (negT a)))) = enc b4 0) ∧ (m3 = 0 ∨ m1 = 0 ∨ (sg b3 (magV m3 e3) ≤ ((2 ^ (e1 + 1074).toNat : Nat) : Int) ∧ -1074 ≤ e1 ∧ e1 ≤ 1000 ∧ -1074 ≤ e3)) := by
  obtain ⟨_, am, ai, _, _, _, _⟩ := read_num ha hra
  obtain ⟨_, bn, bj, _, _, _, _⟩ := read_num hb hrb
  generalize hdd : (i - j).toNat = d at *
  generalize hcc : (j + 1074).toNat = c at *
  have hd52 : d ≤ 52 := by omega
  have hc19 : c ≤ 1974 := by omega
  have hvA : sg s (magV m i) = sg s (m * 2 ^ d) * ((2 ^ c : Nat) : Int) := by
    rw [← sg_mul, Nat.mul_assoc, ← Nat.pow_add]
    unfold magV
    rw [show (i + 1074).toNat = d + c by omega]
  have hvB : sg t (magV n j) = sg t n * ((2 ^ c : Nat) : Int) := by
    rw [← sg_mul]
    unfold magV
    rw [hcc]
  have hAn : (sg s (m * 2 ^ d)).natAbs = m * 2 ^ d := sg_abs _ _
  have hBn : (sg t n).natAbs = n := sg_abs _ _
  generalize hA : sg s (m * 2 ^ d) = A at *
  generalize hB : sg t n = B at *
  have hp : (0 : Int) < ((2 ^ c : Nat) : Int) := by have : 0 < 2 ^ c := Nat.pow_pos (by decide); omega
  obtain ⟨hs1, hs2⟩ := add_val ai bj hra hrb
  rw [hvA, hvB, ← Int.add_mul] at hs1 hs2
  obtain ⟨ona, onv⟩ := opp_number ha hra
  have hAb : m * 2 ^ d < 9007199254740992 * 2 ^ d := Nat.mul_lt_mul_of_pos_right am (Nat.pow_pos (by decide))
  have hP52 : (2 : Nat) ^ d ≤ 2 ^ 52 := Nat.pow_le_pow_right (by decide) hd52
  have e52 : (2 : Nat) ^ 52 = 4503599627370496 := rfl
  have e110 : (2 : Nat) ^ 110 = 1298074214633706907132624082305024 := rfl
  have e105 : (2 : Nat) ^ 105 = 40564819207303340847894502572032 := rfl
  have hAlt : m * 2 ^ d < 2 ^ 105 := by
    rw [e105]; rw [e52] at hP52
    have : 9007199254740992 * 2 ^ d ≤ 9007199254740992 * 4503599627370496 := Nat.mul_le_mul_left _ hP52
    omega
  by_cases hT : A + B = 0
  · -- the sum is nothing
    obtain ⟨b1, hb1⟩ := hs2 (by rw [hT, Int.zero_mul])
    have r1 := enc_number b1
    rw [← hb1] at r1
    have z0 : magV 0 (-1074) = 0 := Nat.zero_mul _
    have zs : sg b1 0 = 0 := by cases b1 <;> rfl
    have fA : fits (-(A * ((2 ^ c : Nat) : Int))).natAbs := by
      rw [Int.natAbs_neg, Int.natAbs_mul, Int.natAbs_natCast, hAn]
      exact fits_of (by rw [Nat.mul_assoc, ← Nat.pow_add]; exact ⟨m, _, am, rfl⟩) (Nat.lt_trans hAlt (by decide)) hc19
    obtain ⟨b2, m2, e2, r2, g2, v2⟩ := sum_just (T := -(A * ((2 ^ c : Nat) : Int))) (by omega) ai r1 ona (by rw [z0, zs, onv, hvA, Int.zero_add]) fA
    obtain ⟨on2, ov2⟩ := opp_number (addT_lt _ _) r2
    obtain ⟨b3, m3, e3, r3, g3, v3⟩ := sum_just (T := 0) bj g2 hrb on2 (by rw [ov2, v2, hvB, Int.neg_neg, ← Int.add_mul, Int.add_comm B, hT, Int.zero_mul]) ⟨⟨0, 0, by decide, rfl⟩, by decide⟩
    have hm3 : m3 = 0 := magV_zero (sg_zero v3)
    obtain ⟨_, q2⟩ := add_val (by omega) g3 r1 r3
    have q3 := q2 (by rw [z0, zs, v3]; rfl)
    exact ⟨b1, 0, -1074, b2, m2, e2, b3, m3, e3, r1, r2, r3, .inl rfl, fun _ => ⟨hm3, q3⟩, .inl hm3⟩
  · have hT' : (A + B) * ((2 ^ c : Nat) : Int) ≠ 0 := by rw [ne_eq, Int.mul_eq_zero]; omega
    have hS1 := hs1 hT'
    have hneg : decide ((A + B) * ((2 ^ c : Nat) : Int) < 0) = decide (A + B < 0) := by
      rw [decide_eq_decide]
      constructor
      · intro h5
        by_cases h6 : A + B < 0
        · exact h6
        · have := Int.mul_nonneg (show 0 ≤ A + B by omega) (Int.le_of_lt hp); omega
      · intro h5
        exact Int.mul_neg_of_neg_of_pos h5 hp
    have hna : ((A + B) * ((2 ^ c : Nat) : Int)).natAbs = (A + B).natAbs * 2 ^ c := by rw [Int.natAbs_mul, Int.natAbs_natCast]
    rw [hneg, hna] at hS1
    have hv0 : (A + B).natAbs ≠ 0 := by omega
    have hlt := sum_lt hAn hBn am bn
    have hvlog2 : (A + B).natAbs.log2 ≤ 53 + d := by
      have := log_mono hlt hv0
      clear hs1 hs2 hS1 hT' hvA hvB onv hneg hna hlt
      omega
    have hvlog : (A + B).natAbs.log2 ≤ 105 := Nat.le_trans hvlog2 (Nat.add_le_add_left hd52 53)
    have hR := near_rnd (decide (A + B < 0)) (A + B).natAbs c (by omega)
    have hrl := rnd_log (v := (A + B).natAbs)
    have hr0 := rnd_zero hv0
    have fR : fits (rnd (A + B).natAbs * 2 ^ c) := by
      refine ⟨rnd_rep _ _, ?_⟩
      rw [log_shift _ _ hr0]; omega
    obtain ⟨m1, e1, r1, g1, v1, x1⟩ := near_number (decide (A + B < 0)) fR
    rw [← hR, ← hS1] at r1
    -- the rounded sum, with its sign
    obtain ⟨S, hS, hSsg, hSv⟩ : ∃ S : Int, S.natAbs = rnd (A + B).natAbs ∧ 0 ≤ S * (A + B) ∧ sg (decide (A + B < 0)) (magV m1 e1) = S * ((2 ^ c : Nat) : Int) := by
      refine ⟨sg (decide (A + B < 0)) (rnd (A + B).natAbs), sg_abs _ _, ?_, by rw [v1, sg_mul]⟩
      by_cases hn : A + B < 0
      · rw [decide_eq_true hn]
        unfold sg
        rw [if_pos rfl, Int.neg_mul]
        have := Int.mul_nonpos_of_nonneg_of_nonpos (Int.natCast_nonneg (rnd (A + B).natAbs)) (show A + B ≤ 0 by omega)
        omega
      · rw [decide_eq_false hn]
        unfold sg
        rw [if_neg (by simp)]
        exact Int.mul_nonneg (Int.natCast_nonneg _) (by omega)
    have hm1 : m1 ≠ 0 := by
      intro h
      subst h
      have : magV 0 e1 = 0 := Nat.zero_mul _
      rw [this] at v1
      exact Nat.mul_ne_zero hr0 (Nat.ne_of_gt (Nat.pow_pos (by decide))) v1.symm
    -- both differences have 53 figures
    have hboth : rep ((S - A).natAbs * 2 ^ c) ∧ rep ((A + B - S).natAbs * 2 ^ c) ∧ (A + B - S = 0 ∨ (53 ≤ (A + B).natAbs.log2 ∧ 2 * (A + B - S).natAbs ≤ 2 ^ ((A + B).natAbs.log2 - 52))) := by
      by_cases h53 : 53 ≤ (A + B).natAbs.log2
      · obtain ⟨l1, l2, l3⟩ := lost_rep A B m n d am bn hd52 hAn hBn S hS hSsg h53 c
        exact ⟨l1, l2, .inr ⟨h53, l3⟩⟩
      · have hrn : rnd (A + B).natAbs = (A + B).natAbs := by unfold rnd; rw [if_pos (by omega)]
        have hSe : S = A + B := sign_same (by rw [hS, hrn]) hSsg
        have hSz : A + B - S = 0 := by rw [hSe, Int.sub_self]
        refine ⟨?_, ?_, .inl hSz⟩
        · rw [hSe, show A + B - A = B by omega, hBn]; exact rep_le c (by omega)
        · rw [hSe, Int.sub_self]; exact rep_le c (by decide)
    obtain ⟨l1, l2, l3⟩ := hboth
    have hlostlt : (A + B - S).natAbs < 2 ^ 54 := by
      rcases l3 with h | ⟨_, h⟩
      · rw [h]; decide
      · have h7 : (2 : Nat) ^ ((A + B).natAbs.log2 - 52) ≤ 2 ^ 53 := Nat.pow_le_pow_right (by decide) (by omega)
        have h8 : (2 : Nat) ^ 53 = 9007199254740992 := rfl
        have h9 : (2 : Nat) ^ 54 = 18014398509481984 := rfl
        rw [h9]; rw [h8] at h7
        omega
    have hdlt : (S - A).natAbs < 2 ^ 110 := far_lt hlostlt hBn bn
    have f2 : fits ((S - A) * ((2 ^ c : Nat) : Int)).natAbs := by
      rw [Int.natAbs_mul, Int.natAbs_natCast]
      exact fits_of l1 hdlt hc19
    have f3 : fits ((A + B - S) * ((2 ^ c : Nat) : Int)).natAbs := by
      rw [Int.natAbs_mul, Int.natAbs_natCast]
      exact fits_of l2 (Nat.lt_trans hlostlt (by decide)) hc19
    obtain ⟨b2, m2, e2, r2, g2, v2⟩ := sum_just (T := (S - A) * ((2 ^ c : Nat) : Int)) g1 ai r1 ona (by rw [hSv, onv, hvA, Int.sub_mul]; omega) f2
    obtain ⟨on2, ov2⟩ := opp_number (addT_lt _ _) r2
    obtain ⟨b3, m3, e3, r3, g3, v3⟩ := sum_just (T := (A + B - S) * ((2 ^ c : Nat) : Int)) bj g2 hrb on2 (by rw [ov2, v2, hvB, Int.sub_mul, Int.sub_mul, Int.add_mul]; omega) f3
    obtain ⟨q1, _⟩ := add_val g1 g3 r1 r3
    have hsum : sg (decide (A + B < 0)) (magV m1 e1) + sg b3 (magV m3 e3) = (A + B) * ((2 ^ c : Nat) : Int) := by
      rw [hSv, v3, Int.sub_mul]; omega
    rw [hsum] at q1
    have q3 := q1 hT'
    rw [hneg, hna, ← hS1] at q3
    refine ⟨_, m1, e1, b2, m2, e2, b3, m3, e3, r1, r2, r3, .inr q3, fun h => absurd h hm1, ?_⟩
    rcases l3 with h | ⟨h53, h⟩
    · left
      rw [h, Int.zero_mul] at v3
      exact magV_zero (sg_zero v3)
    · right; right
      have hx1 := x1 (by rw [log_shift _ _ hr0]; omega)
      rw [log_shift _ _ hr0] at hx1
      refine ⟨?_, g1, by omega, g3⟩
      rw [v3]
      have h5 : (2 : Nat) ^ ((A + B).natAbs.log2 - 52) * 2 ^ c ≤ 2 ^ (e1 + 1074).toNat := by
        rw [← Nat.pow_add]
        exact Nat.pow_le_pow_right (by decide) (by omega)
      have h6 : (A + B - S).natAbs * 2 ^ c ≤ 2 ^ ((A + B).natAbs.log2 - 52) * 2 ^ c := Nat.mul_le_mul_right _ (by omega)
      have h7 : (A + B - S) * ((2 ^ c : Nat) : Int) ≤ (((A + B - S).natAbs * 2 ^ c : Nat) : Int) := by
        rw [Int.natCast_mul]
        exact Int.mul_le_mul_of_nonneg_right (by omega) (Int.le_of_lt hp)
      omega
end Go.Proofs.Ytidhjpdcbmbicaa.CW
