/- At every two texts of at most 2^20 bytes the program's GreatLess and the reference's tell the same. No condition but the statement's own. -/
import Derived.Test.YtfippnoadhhmbaaPFnExactGreatLessx1
import Derived.Test.YtfippnoadhhmbaaCB
namespace Go.Proofs.Ytfippnoadhhmbaa.Pure
open Go.RowKit Go.Proofs.Ytfippnoadhhmbaa.PFnExactGreatLess Go.Proofs.YtfippnoadhhmbaaW.PrintWords Go.Proofs.YtfippnoadhhmbaaW.PrintLast Go.Proofs.Ytfippnoadhhmbaa.CB
theorem spec_in (a b c : Int) : spec_l01In.f a b c = some (decide (b ≤ a ∧ a ≤ c)) := by
  unfold spec_l01In.f
  by_cases h : a ≥ b
  · rw [if_pos h]; simp; omega
  · rw [if_neg h]; simp; omega
/-- From place i on a text has figures alone. -/
def digB (s : ByteArray) (i : Nat) : Bool := decide (∀ j : Nat, j < s.size → i ≤ j → 48 ≤ bt s j ∧ bt s j ≤ 57)
theorem digB_end (s : ByteArray) (i : Nat) (h : s.size ≤ i) : digB s i = true := by
  unfold digB; exact decide_eq_true (fun j h1 h2 => by omega)
theorem digB_no (s : ByteArray) (i : Nat) (h : i < s.size) (hb : bt s i < 48 ∨ bt s i > 57) : digB s i = false := by
  unfold digB
  refine decide_eq_false (fun H => ?_)
  have := H i h (Nat.le_refl _); omega
theorem digB_yes (s : ByteArray) (i : Nat) (hb : 48 ≤ bt s i ∧ bt s i ≤ 57) : digB s i = digB s (i + 1) := by
  unfold digB
  rw [decide_eq_decide]
  constructor
  · exact fun H j h1 h2 => H j h1 (by omega)
  · intro H j h1 h2
    rcases Nat.eq_or_lt_of_le h2 with e | e
    · subst e; exact hb
    · exact H j h1 e
/-- Right figures. -/
def figOk (s : ByteArray) : Bool := decide (1 ≤ s.size ∧ s.size ≤ 800) && digB s 0 && !(bt s 0 == 48 && decide (1 < s.size))
theorem spec_fig_l0 (s : ByteArray) (hs : s.size ≤ 140737488351232) : ∀ (d i : Nat), s.size - i = d → Ev (fun k => spec_FiguresOk.l0 k s i) (digB s i) := by
  intro d
  induction d with
  | zero =>
    intro i hd
    rw [digB_end s i (by omega)]
    exact Ev.step (f := fun _ => some true) (fun k => by simp only [spec_FiguresOk.l0]; rw [if_neg (by omega)]) (Ev.now _)
  | succ d ih =>
    intro i hd
    by_cases h1 : bt s i < 48
    · rw [digB_no s i (by omega) (.inl h1)]
      exact Ev.step (f := fun _ => some false) (fun k => by simp only [spec_FiguresOk.l0]; rw [if_pos (by omega), if_pos (by omega), if_pos h1]) (Ev.now _)
    · by_cases h2 : bt s i > 57
      · rw [digB_no s i (by omega) (.inr h2)]
        exact Ev.step (f := fun _ => some false) (fun k => by simp only [spec_FiguresOk.l0]; rw [if_pos (by omega), if_pos (by omega), if_neg h1, if_pos h2]) (Ev.now _)
      · rw [digB_yes s i (by omega)]
        exact Ev.step (fun k => by simp only [spec_FiguresOk.l0]; rw [if_pos (by omega), if_pos (by omega), if_neg h1, if_neg h2, w64 (by omega) (by omega)]; rfl) (ih (i + 1) (by omega))
theorem spec_fig (s : ByteArray) (hs : s.size ≤ 140737488351232) : Ev (fun k => spec_FiguresOk.f k s) (figOk s) := by
  have h0 := spec_fig_l0 s hs s.size 0 (by omega)
  unfold spec_FiguresOk.f
  rw [spec_in]
  simp only [Option.bind_some]
  by_cases h1 : 1 ≤ s.size ∧ s.size ≤ 800
  · have e1 : decide ((1 : Int) ≤ (s.size : Int) ∧ (s.size : Int) ≤ 800) = true := decide_eq_true (by omega)
    simp only [e1, if_true]
    by_cases h2 : (s.size : Int) > 1
    · simp only [if_pos h2, if_pos (show (0 : Int) < (s.size : Int) by omega)]
      by_cases h3 : bt s 0 = 48
      · have e : figOk s = false := by unfold figOk; simp [h3]; omega
        rw [e]
        exact Ev.step (f := fun _ => some false) (fun k => by simp [spec_FiguresOk.j0, h3]) (Ev.now _)
      · have e : figOk s = digB s 0 := by unfold figOk; simp [h3, h1]
        rw [e]
        exact Ev.step (fun k => by simp only [spec_FiguresOk.j0]; rw [if_neg (by simpa using h3)]; rfl) h0
    · simp only [if_neg h2]
      have e : figOk s = digB s 0 := by
        unfold figOk
        have : decide (1 < s.size) = false := decide_eq_false (by omega)
        simp [h1, this]
      rw [e]
      exact Ev.step (fun k => by simp only [spec_FiguresOk.j0]; rw [if_neg (by simp)]; rfl) h0
  · have e1 : decide ((1 : Int) ≤ (s.size : Int) ∧ (s.size : Int) ≤ 800) = false := decide_eq_false (by omega)
    have e : figOk s = false := by unfold figOk; rw [decide_eq_false h1]; rfl
    simp only [e1, e]
    exact Ev.step (f := fun _ => some false) (fun k => by simp [spec_FiguresOk.j0]) (Ev.now _)
theorem impl_in (a b c : Int) : impl_within.f a b c = some (decide (b ≤ a ∧ a ≤ c)) := by
  unfold impl_within.f
  by_cases h : a ≥ b
  · rw [if_pos h]; simp; omega
  · rw [if_neg h]; simp; omega
theorem impl_dig (a : Int) : impl_isDigit.f a = some (decide (48 ≤ a ∧ a ≤ 57)) := by
  unfold impl_isDigit.f
  by_cases h : a ≥ 48
  · rw [if_pos h]; simp; omega
  · rw [if_neg h]; simp; omega
theorem impl_digs_l0 (s : ByteArray) (hs : s.size ≤ 140737488351232) : ∀ (d i : Nat), s.size - i = d → Ev (fun k => impl_areDigits.l0 k s (s.size : Int) i) (digB s i) := by
  intro d
  induction d with
  | zero =>
    intro i hd
    rw [digB_end s i (by omega)]
    exact Ev.step (f := fun _ => some true) (fun k => by simp only [impl_areDigits.l0]; rw [if_neg (by omega)]) (Ev.now _)
  | succ d ih =>
    intro i hd
    by_cases h1 : 48 ≤ bt s i ∧ bt s i ≤ 57
    · rw [digB_yes s i h1]
      exact Ev.step (fun k => by simp only [impl_areDigits.l0]; rw [if_pos (by omega), if_pos (by omega), if_pos (by omega), impl_dig]; simp only [Option.bind_some]; rw [if_pos (decide_eq_true h1), w64 (by omega) (by omega)]; rfl) (ih (i + 1) (by omega))
    · rw [digB_no s i (by omega) (by omega)]
      exact Ev.step (f := fun _ => some false) (fun k => by simp only [impl_areDigits.l0]; rw [if_pos (by omega), if_pos (by omega), if_pos (by omega), impl_dig]; simp only [Option.bind_some]; rw [if_neg (by simpa using h1)]) (Ev.now _)
theorem impl_digs (s : ByteArray) (hs : s.size ≤ 140737488351232) : Ev (fun k => impl_areDigits.f k s) (digB s 0) := by
  unfold impl_areDigits.f; exact impl_digs_l0 s hs s.size 0 (by omega)
theorem impl_fig (s : ByteArray) (hs : s.size ≤ 140737488351232) : Ev (fun k => impl_FiguresOk.f k s) (figOk s) := by
  unfold impl_FiguresOk.f
  rw [impl_in]
  simp only [Option.bind_some]
  by_cases h1 : 1 ≤ s.size ∧ s.size ≤ 800
  · have e1 : decide ((1 : Int) ≤ (s.size : Int) ∧ (s.size : Int) ≤ 800) = true := decide_eq_true (by omega)
    simp only [e1, if_true]
    refine Ev.bind (impl_digs s hs) ?_
    by_cases h2 : digB s 0 = true
    · simp only [h2, if_true, if_pos (show (0 : Int) < (s.size : Int) by omega)]
      by_cases h3 : bt s 0 = 48
      · simp only [if_pos h3]
        have e : figOk s = ((s.size : Int) == 1) := by
          unfold figOk
          by_cases h4 : s.size = 1
          · simp [h2, h3, h4]
          · have h5 : ¬ (s.size : Int) = 1 := by omega
            have h6 : 1 < s.size := by omega
            simp [h2, h3, h5, h6]
        rw [e]; exact Ev.now _
      · simp only [if_neg h3]
        have e : figOk s = true := by unfold figOk; simp [h2, h3, h1]
        rw [e]; exact Ev.now _
    · simp only [if_neg h2]
      have e : figOk s = false := by unfold figOk; simp [h2]
      rw [e]; exact Ev.now _
  · have e1 : decide ((1 : Int) ≤ (s.size : Int) ∧ (s.size : Int) ≤ 800) = false := decide_eq_false (by omega)
    have e : figOk s = false := by unfold figOk; rw [decide_eq_false h1]; rfl
    simp only [e1, e]
    exact Ev.now _
/-- Of right figures the lesser. -/
def lessB (a b : ByteArray) : Bool := figOk a && figOk b && (decide (a.size < b.size) || (a.size == b.size && Op.bytesLess a.toList b.toList))
theorem spec_less (a b : ByteArray) (ha : a.size ≤ 140737488351232) (hb : b.size ≤ 140737488351232) : Ev (fun k => spec_GreatLess.f k a b) (lessB a b) := by
  unfold spec_GreatLess.f
  refine Ev.bind (spec_fig a ha) ?_
  by_cases h1 : figOk a = true
  · simp only [h1, if_true]
    refine Ev.bind (spec_fig b hb) ?_
    by_cases h2 : figOk b = true
    · simp only [h2, Bool.not_true]
      by_cases h3 : a.size = b.size
      · have e : lessB a b = Op.bytesLess a.toList b.toList := by unfold lessB; simp [h1, h2, h3]
        rw [e]
        exact Ev.step (f := fun _ => some (Op.bytesLess a.toList b.toList)) (fun k => by simp only [spec_GreatLess.j0]; rw [if_neg (by simp), if_pos (by omega)]) (Ev.now _)
      · have e : lessB a b = decide ((a.size : Int) < (b.size : Int)) := by unfold lessB; simp [h1, h2, h3]
        rw [e]
        exact Ev.step (f := fun _ => some (decide ((a.size : Int) < (b.size : Int)))) (fun k => by simp only [spec_GreatLess.j0]; rw [if_neg (by simp), if_neg (by omega)]) (Ev.now _)
    · have e : lessB a b = false := by unfold lessB; simp [h2]
      rw [Bool.not_eq_true] at h2
      simp only [h2, Bool.not_false, e]
      exact Ev.step (f := fun _ => some false) (fun k => by simp [spec_GreatLess.j0]) (Ev.now _)
  · have e : lessB a b = false := by unfold lessB; simp [h1]
    simp only [if_neg h1, e]
    exact Ev.step (f := fun _ => some false) (fun k => by simp [spec_GreatLess.j0]) (Ev.now _)
theorem impl_less (a b : ByteArray) (ha : a.size ≤ 140737488351232) (hb : b.size ≤ 140737488351232) : Ev (fun k => impl_GreatLess.f k a b) (lessB a b) := by
  unfold impl_GreatLess.f
  refine Ev.bind (impl_fig a ha) ?_
  by_cases h1 : figOk a = true
  · simp only [h1, if_true]
    refine Ev.bind (impl_fig b hb) ?_
    by_cases h2 : figOk b = true
    · simp only [h2, if_true]
      by_cases h3 : a.size < b.size
      · have e : lessB a b = true := by unfold lessB; simp [h1, h2, h3]
        simp only [if_pos (show (a.size : Int) < (b.size : Int) by omega), e]
        exact Ev.now _
      · simp only [if_neg (show ¬ (a.size : Int) < (b.size : Int) by omega)]
        by_cases h4 : a.size = b.size
        · have e : lessB a b = Op.bytesLess a.toList b.toList := by unfold lessB; simp [h1, h2, h4]
          simp only [if_pos (show (a.size : Int) = (b.size : Int) by omega), e]
          exact Ev.now _
        · have e : lessB a b = false := by unfold lessB; simp [h1, h2, h3, h4]
          simp only [if_neg (show ¬ (a.size : Int) = (b.size : Int) by omega), e]
          exact Ev.now _
    · have e : lessB a b = false := by unfold lessB; simp [h2]
      simp only [if_neg h2, e]
      exact Ev.now _
  · have e : lessB a b = false := by unfold lessB; simp [h1]
    simp only [if_neg h1, e]
    exact Ev.now _
theorem FnExactGreatLess : laws_FnExactGreatLess.Pure := by
  intro a b ha hb
  unfold laws_FnExactGreatLess.f
  by_cases h : (a.size : Int) > 1048576
  · exact ⟨0, if_pos h⟩
  by_cases h' : (b.size : Int) > 1048576
  · exact ⟨0, by rw [if_neg h, if_pos h']⟩
  simp only [if_neg h, if_neg h']
  exact Ev.rounds (Ev.bind (spec_less a b ha hb) (Ev.bind (impl_less a b ha hb) (by simpa using Ev.now true)))
end Go.Proofs.Ytfippnoadhhmbaa.Pure
