/- At every whole number the program's VarText and the reference's tell the same. No condition but the statement's own. -/
import Derived.Test.YtfippnoadhhmbaaPFnExactVarTextx1
import Derived.Test.YtfippnoadhhmbaaCB
namespace Go.Proofs.Ytfippnoadhhmbaa.Pure
open Go.RowKit Go.Proofs.Ytfippnoadhhmbaa.PFnExactVarText Go.Proofs.YtfippnoadhhmbaaW.PrintWords Go.Proofs.YtfippnoadhhmbaaW.PrintLast Go.Proofs.Ytfippnoadhhmbaa.CB
theorem spec_in (a b c : Int) : spec_l01In.f a b c = some (decide (b ≤ a ∧ a ≤ c)) := by
  unfold spec_l01In.f
  by_cases h : a ≥ b
  · rw [if_pos h]; simp; omega
  · rw [if_neg h]; simp; omega
/-- A number by sevens of bits, the lowest first. -/
def varL (n : Nat) : List Int := if n > 127 then ((n % 128 + 128 : Nat) : Int) :: varL (n / 128) else [(n : Int)]
termination_by n
decreasing_by omega
theorem varL_far (n : Nat) (h : n > 127) : varL n = ((n % 128 + 128 : Nat) : Int) :: varL (n / 128) := by rw [varL]; rw [if_pos h]
theorem varL_end (n : Nat) (h : ¬ n > 127) : varL n = [(n : Int)] := by rw [varL]; rw [if_neg h]
theorem varL_long : ∀ (d n : Nat), n < 128 ^ d → (varL n).length ≤ d + 1 := by
  intro d
  induction d with
  | zero => intro n h; rw [varL_end n (by omega)]; simp
  | succ d ih =>
    intro n h
    by_cases hb : n > 127
    · rw [varL_far n hb]; have := ih (n / 128) (by rw [Nat.pow_succ] at h; omega); simp; omega
    · rw [varL_end n hb]; simp
theorem spec_var_l0 : ∀ (d n : Nat) (acc : List Int), n < 128 ^ d → n < 9223372036854775808 → acc.length + d ≤ 1000 → Ev (fun k => spec_l01Var.l0 k (n : Int) acc) (strOfNums (acc ++ varL n)) := by
  intro d
  induction d with
  | zero =>
    intro n acc h hn ha
    rw [varL_end n (by omega)]
    exact Ev.step (f := fun _ => some (strOfNums (acc ++ [(n : Int)]))) (fun k => by simp only [spec_l01Var.l0]; rw [if_neg (by omega), if_pos (by omega), show (n : Int) % 256 = n by omega]) (Ev.now _)
  | succ d ih =>
    intro n acc h hn ha
    by_cases hb : n > 127
    · rw [varL_far n hb]
      have h' := ih (n / 128) (acc ++ [((n % 128 + 128 : Nat) : Int)]) (by rw [Nat.pow_succ] at h; omega) (by omega) (by simp; omega)
      rw [List.append_assoc] at h'
      exact Ev.step (fun k => by
        simp only [spec_l01Var.l0]
        rw [if_pos (by omega), if_pos (by omega), tdivN (by omega), tmodN (by omega), w64 (x := (n : Int) / 128) (by omega) (by omega), w64 (x := (n : Int) % 128 + 128) (by omega) (by omega),
          show ((n : Int) % 128 + 128) % 256 = ((n % 128 + 128 : Nat) : Int) by omega, show (n : Int) / 128 = ((n / 128 : Nat) : Int) by omega]) h'
    · rw [varL_end n hb]
      exact Ev.step (f := fun _ => some (strOfNums (acc ++ [(n : Int)]))) (fun k => by simp only [spec_l01Var.l0]; rw [if_neg (by omega), if_pos (by omega), show (n : Int) % 256 = n by omega]) (Ev.now _)
theorem spec_l01var (n : Nat) (hn : n < 9223372036854775808) : Ev (fun k => spec_l01Var.f k (n : Int)) (strOfNums (varL n)) := by
  unfold spec_l01Var.f; exact spec_var_l0 10 n [] (Nat.lt_trans hn (by decide)) hn (by simp)
/-- What VarText tells. -/
def varT (n : Int) : ByteArray × Bool := if 0 ≤ n ∧ n ≤ 1000000000 then (strOfNums (varL n.toNat), true) else (⟨#[]⟩, false)
theorem varT_in (n : Nat) (h : n ≤ 1000000000) : varT n = (strOfNums (varL n), true) := by unfold varT; rw [if_pos (by omega)]; rfl
theorem spec_varText (n : Int) : Ev (fun k => spec_VarText.f k n) (varT n) := by
  unfold spec_VarText.f
  rw [spec_in]
  simp only [Option.bind_some]
  by_cases h : 0 ≤ n ∧ n ≤ 1000000000
  · obtain ⟨m, rfl⟩ : ∃ m : Nat, n = m := ⟨n.toNat, by omega⟩
    rw [varT_in m (by omega)]
    simp only [decide_eq_true h, if_true]
    exact Ev.bind (spec_l01var m (by omega)) (Ev.now _)
  · have e : varT n = (⟨#[]⟩, false) := by unfold varT; rw [if_neg h]
    rw [e]
    simp only [decide_eq_false h]
    exact Ev.now _
theorem impl_in (a b c : Int) : impl_within.f a b c = some (decide (b ≤ a ∧ a ≤ c)) := by
  unfold impl_within.f
  by_cases h : a ≥ b
  · rw [if_pos h]; simp; omega
  · rw [if_neg h]; simp; omega
theorem impl_var_l0 : ∀ (d n : Nat) (acc : List Int), n < 128 ^ d → n < 9223372036854775808 → acc.length + d ≤ 1000 → Ev (fun k => impl_VarText.l0 k (n : Int) acc) (strOfNums (acc ++ varL n), true) := by
  intro d
  induction d with
  | zero =>
    intro n acc h hn ha
    rw [varL_end n (by omega)]
    exact Ev.step (f := fun _ => some (strOfNums (acc ++ [(n : Int)]), true)) (fun k => by simp only [impl_VarText.l0]; rw [if_neg (by omega), if_pos (by omega), show (n : Int) % 256 = n by omega]) (Ev.now _)
  | succ d ih =>
    intro n acc h hn ha
    by_cases hb : n > 127
    · rw [varL_far n hb]
      have h' := ih (n / 128) (acc ++ [((n % 128 + 128 : Nat) : Int)]) (by rw [Nat.pow_succ] at h; omega) (by omega) (by simp; omega)
      rw [List.append_assoc] at h'
      have e1 : Go.bits .and .i64 (n : Int) 127 = ((n % 128 : Nat) : Int) := by
        have h1 := and_i64 n 127 hn (by omega)
        rw [show n &&& 127 = n % 128 from mask n 7] at h1
        exact h1
      have e2 : Go.bits .or .i64 ((n % 128 : Nat) : Int) 128 = ((n % 128 + 128 : Nat) : Int) := by
        have h1 := or_i64 (n % 128) 128 (by omega) (by omega)
        have h2 := join 1 (n % 128) 7 (by omega)
        rw [Nat.or_comm, show (2 ^ 7 * 1 : Nat) = 128 from rfl] at h2
        rw [h2, Nat.add_comm] at h1
        exact h1
      exact Ev.step (fun k => by
        simp only [impl_VarText.l0]
        rw [if_pos (by omega), if_pos (by omega), e1, e2,
          show ((n % 128 + 128 : Nat) : Int) % 256 = ((n % 128 + 128 : Nat) : Int) by omega, show (n : Int) / 128 = ((n / 128 : Nat) : Int) by omega]) h'
    · rw [varL_end n hb]
      exact Ev.step (f := fun _ => some (strOfNums (acc ++ [(n : Int)]), true)) (fun k => by simp only [impl_VarText.l0]; rw [if_neg (by omega), if_pos (by omega), show (n : Int) % 256 = n by omega]) (Ev.now _)
theorem impl_varText (n : Int) : Ev (fun k => impl_VarText.f k n) (varT n) := by
  unfold impl_VarText.f
  rw [impl_in]
  simp only [Option.bind_some]
  by_cases h : 0 ≤ n ∧ n ≤ 1000000000
  · obtain ⟨m, rfl⟩ : ∃ m : Nat, n = m := ⟨n.toNat, by omega⟩
    rw [varT_in m (by omega)]
    simp only [decide_eq_true h, if_true]
    exact impl_var_l0 5 m [] (by omega) (by omega) (by simp)
  · have e : varT n = (⟨#[]⟩, false) := by unfold varT; rw [if_neg h]
    rw [e]
    simp only [decide_eq_false h]
    exact Ev.now _
theorem FnExactVarText : laws_FnExactVarText.Pure := by
  intro n hn
  unfold laws_FnExactVarText.f
  exact Ev.rounds (Ev.bind (spec_varText n) (Ev.bind (impl_varText n) (by simpa using Ev.now true)))
end Go.Proofs.Ytfippnoadhhmbaa.Pure
