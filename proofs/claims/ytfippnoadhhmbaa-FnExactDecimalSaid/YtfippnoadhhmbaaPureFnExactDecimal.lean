/- At every whole number the program's Decimal and the reference's tell the same. No condition but the statement's own. -/
import Derived.Test.YtfippnoadhhmbaaMFnExactDecimalx1
import Derived.Test.YtfippnoadhhmbaaCB
namespace Go.Proofs.Ytfippnoadhhmbaa.Pure
open Go.RowKit Go.Proofs.Ytfippnoadhhmbaa.MFnExactDecimal Go.Proofs.YtfippnoadhhmbaaW.PrintWords Go.Proofs.YtfippnoadhhmbaaW.PrintLast Go.Proofs.Ytfippnoadhhmbaa.CB
theorem spec_figure10 (x : Nat) (h : x < 10) : spec_l01Figure.f (x : Int) = some (48 + (x : Int)) := by
  unfold spec_l01Figure.f
  rw [if_pos (by omega), w64 (by omega) (by omega), show (48 + (x : Int)) % 256 = 48 + x by omega]
/-- The figures of a number, ahead of a text; nothing of 0. -/
def dgs (m : Nat) (s : ByteArray) : ByteArray := if m = 0 then s else dgs (m / 10) (strOfNums [48 + ((m % 10 : Nat) : Int)] ++ s)
termination_by m
decreasing_by omega
theorem dgs_zero (s : ByteArray) : dgs 0 s = s := by rw [dgs]; rfl
theorem dgs_pos (m : Nat) (s : ByteArray) (h : m ≠ 0) : dgs m s = dgs (m / 10) (strOfNums [48 + ((m % 10 : Nat) : Int)] ++ s) := by rw [dgs, if_neg h]
/-- What Decimal tells. -/
def decT (n : Int) : ByteArray := if n = 0 then ⟨#[48]⟩ else if n < 0 then ⟨#[45]⟩ ++ dgs n.natAbs ⟨#[]⟩ else dgs n.natAbs ⟨#[]⟩
def sgn (b : Bool) (s : ByteArray) : ByteArray := if b = true then ⟨#[45]⟩ ++ s else s
theorem decT_sgn (n : Int) (h : n ≠ 0) : decT n = sgn (decide (n < 0)) (dgs n.natAbs ⟨#[]⟩) := by
  unfold decT sgn; rw [if_neg h]; by_cases h1 : n < 0 <;> simp [h1]
theorem dgs_size : ∀ (d m : Nat) (s : ByteArray), m < 10 ^ d → (dgs m s).size ≤ s.size + d := by
  intro d
  induction d with
  | zero => intro m s h; obtain rfl : m = 0 := by omega
            rw [dgs_zero]; omega
  | succ d ih =>
    intro m s h
    by_cases h0 : m = 0
    · subst h0; rw [dgs_zero]; omega
    · rw [dgs_pos m s h0]
      have := ih (m / 10) (strOfNums [48 + ((m % 10 : Nat) : Int)] ++ s) (by rw [Nat.pow_succ] at h; omega)
      rw [ByteArray.size_append, str_size] at this
      simp only [List.length_cons, List.length_nil] at this; omega
theorem tdiv10 (b : Bool) (m : Nat) : Int.tdiv (if b then -(m : Int) else m) 10 = if b then -((m / 10 : Nat) : Int) else ((m / 10 : Nat) : Int) := by
  cases b with
  | false => simp only [Bool.false_eq_true, if_false]; rw [tdivN (Int.natCast_nonneg m)]; rfl
  | true => simp only [if_true]; rw [Int.neg_tdiv, tdivN (Int.natCast_nonneg m)]; rfl
theorem tmod10 (b : Bool) (m : Nat) : Int.tmod (if b then -(m : Int) else m) 10 = if b then -((m % 10 : Nat) : Int) else ((m % 10 : Nat) : Int) := by
  cases b with
  | false => simp only [Bool.false_eq_true, if_false]; rw [tmodN (Int.natCast_nonneg m)]; rfl
  | true => simp only [if_true]; rw [Int.neg_tmod, tmodN (Int.natCast_nonneg m)]; rfl
theorem signed_of (n : Int) : n = if decide (n < 0) then -(n.natAbs : Int) else (n.natAbs : Int) := by
  by_cases h : n < 0
  · rw [decide_eq_true h]; simp only [if_true]; omega
  · rw [decide_eq_false h]; simp only [Bool.false_eq_true, if_false]; omega
theorem spec_dec_l0 (below b : Bool) : ∀ (d m : Nat) (s : ByteArray), m < 10 ^ d → m ≤ 9223372036854775808 → s.size + d ≤ 1000 →
    Ev (fun k => spec_Decimal.l0 k (if b then -(m : Int) else m) below s) (sgn below (dgs m s)) := by
  have hz : ∀ s : ByteArray, s.size ≤ 1000 → Ev (fun k => spec_Decimal.l0 k (if b then -((0 : Nat) : Int) else ((0 : Nat) : Int)) below s) (sgn below (dgs 0 s)) := by
    intro s hs
    rw [dgs_zero, show (if b then -((0 : Nat) : Int) else ((0 : Nat) : Int)) = 0 by cases b <;> rfl]
    refine Ev.step (f := fun _ => some (sgn below s)) (fun k => ?_) (Ev.now _)
    simp only [spec_Decimal.l0, if_true]
    unfold sgn
    cases below
    · rfl
    · simp only [if_true]; rw [if_pos (by omega)]
  intro d
  induction d with
  | zero => intro m s h hm hs; obtain rfl : m = 0 := by omega
            exact hz s (by omega)
  | succ d ih =>
    intro m s h hm hs
    by_cases h0 : m = 0
    · subst h0; exact hz s (by omega)
    · rw [dgs_pos m s h0]
      have h' := ih (m / 10) (strOfNums [48 + ((m % 10 : Nat) : Int)] ++ s) (by rw [Nat.pow_succ] at h; omega) (by omega) (by rw [ByteArray.size_append, str_size]; simp; omega)
      refine Ev.step (fun k => ?_) h'
      simp only [spec_Decimal.l0]
      rw [tdiv10 b m, tmod10 b m, if_neg (by cases b <;> simp <;> omega)]
      have hw : wrap64 (if b then -((m / 10 : Nat) : Int) else ((m / 10 : Nat) : Int)) = if b then -((m / 10 : Nat) : Int) else ((m / 10 : Nat) : Int) := by
        apply w64 <;> (cases b <;> simp <;> omega)
      rw [hw]
      by_cases hd : b = true ∧ m % 10 ≠ 0
      · obtain ⟨rfl, hd⟩ := hd
        simp only [if_true]
        rw [if_pos (by omega), w64 (by omega) (by omega), Int.neg_neg, spec_figure10 _ (by omega)]
        simp only [Option.bind_some]
        rw [if_pos (by rw [str_size]; simp; omega)]
      · have e : (if b then -((m % 10 : Nat) : Int) else ((m % 10 : Nat) : Int)) = ((m % 10 : Nat) : Int) := by
          cases b
          · rfl
          · simp only [if_true]; have : m % 10 = 0 := by simp at hd; exact hd
            rw [this]; rfl
        rw [e, if_neg (by omega), spec_figure10 _ (by omega)]
        simp only [Option.bind_some]
        rw [if_pos (by rw [str_size]; simp; omega)]
theorem spec_dec (n : Int) (h0 : -9223372036854775808 ≤ n) (h1 : n < 9223372036854775808) : Ev (fun k => spec_Decimal.f k n) (decT n) := by
  unfold spec_Decimal.f
  by_cases h : n = 0
  · subst h
    simp only [if_true]
    have e : decT 0 = ⟨#[48]⟩ := rfl
    rw [e]
    exact Ev.now _
  · simp only [if_neg h]
    rw [decT_sgn n h]
    have h' := spec_dec_l0 (decide (n < 0)) (decide (n < 0)) 20 n.natAbs ⟨#[]⟩ (Nat.lt_of_le_of_lt (show n.natAbs ≤ 9223372036854775808 by omega) (by decide)) (by omega) (by simp [ByteArray.size])
    rw [← signed_of n] at h'
    exact h'
theorem impl_in (a b c : Int) : impl_within.f a b c = some (decide (b ≤ a ∧ a ≤ c)) := by
  unfold impl_within.f
  by_cases h : a ≥ b
  · rw [if_pos h]; simp; omega
  · rw [if_neg h]; simp; omega
/-- The figures of a number, a nought of 0. -/
def dgz (m : Nat) (s : ByteArray) : ByteArray := if m = 0 then strOfNums [48] ++ s else dgs m s
theorem dgz_small (m : Nat) (s : ByteArray) (h : m < 10) : dgz m s = strOfNums [48 + (m : Int)] ++ s := by
  unfold dgz
  by_cases h0 : m = 0
  · subst h0; rfl
  · rw [if_neg h0, dgs_pos m s h0, show m / 10 = 0 by omega, dgs_zero, show m % 10 = m by omega]
theorem dgz_far (m : Nat) (s : ByteArray) (h : ¬ m < 10) : dgz m s = dgz (m / 10) (strOfNums [48 + ((m % 10 : Nat) : Int)] ++ s) := by
  unfold dgz
  rw [if_neg (by omega), if_neg (by omega), dgs_pos m s (by omega)]
theorem impl_dec_l0 (n : Int) (b : Bool) : ∀ (d m : Nat) (s : ByteArray), m < 10 ^ (d + 1) → m ≤ 9223372036854775808 → s.size + d ≤ 1000 →
    Ev (fun k => impl_Decimal.l0 k n s (if b then -(m : Int) else m)) (sgn (decide (n < 0)) (dgz m s)) := by
  have hr : ∀ (m : Nat) (s : ByteArray) (k : Nat), m ≤ 9223372036854775808 → s.size ≤ 1000 → impl_Decimal.l0 (k + 1) n s (if b then -(m : Int) else m) =
      if m < 10 then some (sgn (decide (n < 0)) (dgz m s)) else impl_Decimal.l0 k n (strOfNums [48 + ((m % 10 : Nat) : Int)] ++ s) (if b then -((m / 10 : Nat) : Int) else ((m / 10 : Nat) : Int)) := by
    intro m s k hm hs
    simp only [impl_Decimal.l0]
    rw [tdiv10 b m, tmod10 b m]
    have hw : wrap64 (if b then -((m / 10 : Nat) : Int) else ((m / 10 : Nat) : Int)) = if b then -((m / 10 : Nat) : Int) else ((m / 10 : Nat) : Int) := by
      apply w64 <;> (cases b <;> simp <;> omega)
    rw [hw, impl_in]
    have hin : decide ((-9 : Int) ≤ (if b then -(m : Int) else m) ∧ (if b then -(m : Int) else m) ≤ 9) = decide (m < 10) := by
      rw [decide_eq_decide]; cases b <;> simp <;> omega
    have htail : ∀ y : ByteArray, y.size ≤ 10 → y = strOfNums [48 + ((m % 10 : Nat) : Int)] → (if decide (m < 10) = true then (if n < 0 then (if 1 + (y ++ s).size ≤ 9223372036854775807 then some ((⟨#[45]⟩ : ByteArray) ++ (y ++ s)) else none) else some (y ++ s)) else impl_Decimal.l0 k n (y ++ s) (if b then -((m / 10 : Nat) : Int) else ((m / 10 : Nat) : Int))) = if m < 10 then some (sgn (decide (n < 0)) (dgz m s)) else impl_Decimal.l0 k n (strOfNums [48 + ((m % 10 : Nat) : Int)] ++ s) (if b then -((m / 10 : Nat) : Int) else ((m / 10 : Nat) : Int)) := by
      intro y hy hyy
      by_cases h1 : m < 10
      · rw [if_pos (decide_eq_true h1), if_pos h1, dgz_small m s h1]
        rw [show m % 10 = m by omega] at hyy
        rw [← hyy]
        unfold sgn
        by_cases h2 : n < 0
        · rw [if_pos h2, if_pos (by rw [ByteArray.size_append]; omega), if_pos (decide_eq_true h2)]
        · rw [if_neg h2, if_neg (by simpa using h2)]
      · rw [if_neg (by simpa using h1), if_neg h1, hyy]
    by_cases hd : b = true ∧ m % 10 ≠ 0
    · obtain ⟨rfl, hd⟩ := hd
      simp only [if_true] at hin htail ⊢
      rw [if_pos (by omega), w64 (x := - -((m % 10 : Nat) : Int)) (by omega) (by omega), Int.neg_neg, w64 (by omega) (by omega), show (48 + ((m % 10 : Nat) : Int)) % 256 = 48 + ((m % 10 : Nat) : Int) by omega]
      simp only [Option.bind_some]
      rw [if_pos (by rw [str_size]; simp; omega), hin]
      exact htail _ (by rw [str_size]; simp) rfl
    · have e : (if b then -((m % 10 : Nat) : Int) else ((m % 10 : Nat) : Int)) = ((m % 10 : Nat) : Int) := by
        cases b
        · rfl
        · simp only [if_true]; have : m % 10 = 0 := by simp at hd; exact hd
          rw [this]; rfl
      rw [e, if_neg (by omega), w64 (by omega) (by omega), show (48 + ((m % 10 : Nat) : Int)) % 256 = 48 + ((m % 10 : Nat) : Int) by omega]
      simp only [Option.bind_some]
      rw [if_pos (by rw [str_size]; simp; omega), hin]
      exact htail _ (by rw [str_size]; simp) rfl
  intro d
  induction d with
  | zero =>
    intro m s h hm hs
    exact Ev.step (f := fun _ => some (sgn (decide (n < 0)) (dgz m s))) (fun k => by rw [hr m s k hm (by omega), if_pos (by simpa using h)]) (Ev.now _)
  | succ d ih =>
    intro m s h hm hs
    by_cases h1 : m < 10
    · exact Ev.step (f := fun _ => some (sgn (decide (n < 0)) (dgz m s))) (fun k => by rw [hr m s k hm (by omega), if_pos h1]) (Ev.now _)
    · rw [dgz_far m s h1]
      exact Ev.step (fun k => by rw [hr m s k hm (by omega), if_neg h1]) (ih (m / 10) (strOfNums [48 + ((m % 10 : Nat) : Int)] ++ s) (by rw [Nat.pow_succ] at h; omega) (by omega) (by rw [ByteArray.size_append, str_size]; simp; omega))
theorem impl_dec (n : Int) (h0 : -9223372036854775808 ≤ n) (h1 : n < 9223372036854775808) : Ev (fun k => impl_Decimal.f k n) (decT n) := by
  unfold impl_Decimal.f
  have h' := impl_dec_l0 n (decide (n < 0)) 19 n.natAbs ⟨#[]⟩ (Nat.lt_of_le_of_lt (show n.natAbs ≤ 9223372036854775808 by omega) (by decide)) (by omega) (by simp [ByteArray.size])
  rw [← signed_of n] at h'
  have e : decT n = sgn (decide (n < 0)) (dgz n.natAbs ⟨#[]⟩) := by
    by_cases h : n = 0
    · subst h; rfl
    · rw [decT_sgn n h]; unfold dgz; rw [if_neg (by omega)]
  rw [e]
  exact h'
theorem FnExactDecimal : laws_FnExactDecimal.Pure := by
  intro n hn
  obtain ⟨h0, h1⟩ := wfi64 hn
  unfold laws_FnExactDecimal.f
  exact Ev.rounds (Ev.bind (spec_dec n h0 h1) (Ev.bind (impl_dec n h0 h1) (by simpa using Ev.now true)))
end Go.Proofs.Ytfippnoadhhmbaa.Pure
