/- At every text of at most 2^20 bytes the program's Hex and the reference's tell the same. No condition but the statement's own. -/
import Derived.Test.YtfippnoadhhmbaaPFnExactHexx1
import Derived.Test.YtfippnoadhhmbaaCB
namespace Go.Proofs.Ytfippnoadhhmbaa.Pure
open Go.RowKit Go.Proofs.Ytfippnoadhhmbaa.PFnExactHex Go.Proofs.YtfippnoadhhmbaaW.PrintWords Go.Proofs.YtfippnoadhhmbaaW.PrintLast Go.Proofs.Ytfippnoadhhmbaa.CB
/-- A figure of 16. -/
def hexd (x : Nat) : Int := if x < 10 then 48 + x else 87 + x
def hexL : List UInt8 → List Int
  | [] => []
  | b :: l => hexd (b.toNat / 16) :: hexd (b.toNat % 16) :: hexL l
theorem hexL_len (l : List UInt8) : (hexL l).length = 2 * l.length := by
  induction l with
  | nil => rfl
  | cons b l ih => simp [hexL, ih]; omega
theorem hexd_range (x : Nat) (h : x < 16) : 48 ≤ hexd x ∧ hexd x ≤ 102 := by unfold hexd; split <;> omega
/-- What Hex tells. -/
def hexT (s : ByteArray) : ByteArray × Bool := if s.size ≤ 12000 then (strOfNums (hexL s.data.toList), true) else (⟨#[]⟩, false)
theorem bt_nat (s : ByteArray) (i : Nat) (h : i < s.size) : ∃ b : UInt8, s.data.toList.drop i = b :: s.data.toList.drop (i + 1) ∧ bt s i = (b.toNat : Int) ∧ b.toNat < 256 :=
  ⟨_, drop_list s i h, bt_list s i h, UInt8.toNat_lt _⟩
theorem spec_figure (x : Nat) (h : x < 16) : spec_l01Figure.f (x : Int) = some (hexd x) := by
  unfold spec_l01Figure.f hexd
  by_cases h1 : x < 10
  · rw [if_pos (by omega), if_pos h1, w64 (by omega) (by omega), show (48 + (x : Int)) % 256 = 48 + x by omega]
  · rw [if_neg (by omega), if_neg h1, w64 (x := 97 + (x : Int)) (by omega) (by omega), w64 (by omega) (by omega), show (97 + (x : Int) - 10) % 256 = 87 + x by omega]
theorem spec_hex_l0 (s : ByteArray) (hs : s.size ≤ 12000) : ∀ (d i : Nat) (acc : List Int), s.size - i = d → acc.length ≤ 2 * i → i ≤ s.size →
    Ev (fun k => spec_Hex.l0 k s acc (i : Int)) (strOfNums (acc ++ hexL (s.data.toList.drop i)), true) := by
  intro d
  induction d with
  | zero =>
    intro i acc hd ha hi
    rw [List.drop_eq_nil_of_le (by simpa using (show s.size ≤ i by omega))]
    exact Ev.step (f := fun _ => some (strOfNums acc, true)) (fun k => by simp only [spec_Hex.l0]; rw [if_neg (by omega)]) (by simpa [hexL] using Ev.now _)
  | succ d ih =>
    intro i acc hd ha hi
    obtain ⟨b, e1, e2, hb⟩ := bt_nat s i (by omega)
    rw [e1]
    have h' := ih (i + 1) (acc ++ [hexd (b.toNat / 16), hexd (b.toNat % 16)]) (by omega) (by simp; omega) (by omega)
    rw [List.append_assoc] at h'
    refine Ev.step (f := fun k => spec_Hex.l0 k s (acc ++ [hexd (b.toNat / 16), hexd (b.toNat % 16)]) ((i + 1 : Nat) : Int)) (fun k => ?_) h'
    simp only [spec_Hex.l0]
    rw [if_pos (by omega), if_pos (by omega), e2, w64 (x := (b.toNat : Int)) (by omega) (by omega), tdivN (by omega), tmodN (by omega), w64 (by omega) (by omega),
      show (b.toNat : Int) / 16 = ((b.toNat / 16 : Nat) : Int) by omega, show (b.toNat : Int) % 16 = ((b.toNat % 16 : Nat) : Int) by omega, spec_figure _ (by omega), spec_figure _ (by omega)]
    simp only [Option.bind_some]
    rw [if_pos (by simp; omega), w64 (by omega) (by omega)]
    rfl
theorem spec_hex (s : ByteArray) : Ev (fun k => spec_Hex.f k s) (hexT s) := by
  unfold spec_Hex.f
  by_cases h : s.size ≤ 12000
  · have e : hexT s = (strOfNums (hexL s.data.toList), true) := by unfold hexT; rw [if_pos h]
    rw [e]
    simp only [if_neg (show ¬ (s.size : Int) > 12000 by omega)]
    simpa using spec_hex_l0 s h s.size 0 [] (by omega) (by simp) (by omega)
  · have e : hexT s = (⟨#[]⟩, false) := by unfold hexT; rw [if_neg h]
    rw [e]
    simp only [if_pos (show (s.size : Int) > 12000 by omega)]
    exact Ev.now _
theorem hex_table : ∀ x : Nat, x < 16 → bt (⟨#[48, 49, 50, 51, 52, 53, 54, 55, 56, 57, 97, 98, 99, 100, 101, 102]⟩ : ByteArray) (x : Int) = hexd x := by decide
theorem impl_hex_l0 (s : ByteArray) (hs : s.size ≤ 12000) : ∀ (d i : Nat) (acc : List Int), s.size - i = d → acc.length ≤ 2 * i → i ≤ s.size →
    Ev (fun k => impl_Hex.l0 k s acc (s.size : Int) (i : Int)) (strOfNums (acc ++ hexL (s.data.toList.drop i)), true) := by
  intro d
  induction d with
  | zero =>
    intro i acc hd ha hi
    rw [List.drop_eq_nil_of_le (by simpa using (show s.size ≤ i by omega))]
    exact Ev.step (f := fun _ => some (strOfNums acc, true)) (fun k => by simp only [impl_Hex.l0]; rw [if_neg (by omega)]) (by simpa [hexL] using Ev.now _)
  | succ d ih =>
    intro i acc hd ha hi
    obtain ⟨b, e1, e2, hb⟩ := bt_nat s i (by omega)
    rw [e1]
    have h' := ih (i + 1) (acc ++ [hexd (b.toNat / 16), hexd (b.toNat % 16)]) (by omega) (by simp; omega) (by omega)
    rw [List.append_assoc] at h'
    have ea : Go.bits .and .u8 (b.toNat : Int) 15 = ((b.toNat % 16 : Nat) : Int) := by
      have h1 := and_u8 b.toNat 15 hb (by omega)
      rw [show b.toNat &&& 15 = b.toNat % 16 from mask _ 4] at h1
      exact h1
    refine Ev.step (f := fun k => impl_Hex.l0 k s (acc ++ [hexd (b.toNat / 16), hexd (b.toNat % 16)]) (s.size : Int) ((i + 1 : Nat) : Int)) (fun k => ?_) h'
    simp only [impl_Hex.l0]
    rw [if_pos (by omega), if_pos (by omega), if_pos (by omega), e2, ea, if_pos (by omega), if_pos (by omega), if_pos (by omega), if_pos (by omega),
      show (b.toNat : Int) / 16 = ((b.toNat / 16 : Nat) : Int) by omega, hex_table _ (by omega), hex_table _ (by omega)]
    simp only [Option.bind_some]
    rw [if_pos (by simp; omega), w64 (by omega) (by omega)]
    rfl
theorem impl_hex (s : ByteArray) : Ev (fun k => impl_Hex.f k s) (hexT s) := by
  unfold impl_Hex.f
  by_cases h : s.size ≤ 12000
  · have e : hexT s = (strOfNums (hexL s.data.toList), true) := by unfold hexT; rw [if_pos h]
    rw [e]
    simp only [if_neg (show ¬ (s.size : Int) > 12000 by omega)]
    simpa using impl_hex_l0 s h s.size 0 [] (by omega) (by simp) (by omega)
  · have e : hexT s = (⟨#[]⟩, false) := by unfold hexT; rw [if_neg h]
    rw [e]
    simp only [if_pos (show (s.size : Int) > 12000 by omega)]
    exact Ev.now _
theorem FnExactHex : laws_FnExactHex.Pure := by
  intro s hs
  unfold laws_FnExactHex.f
  by_cases h : (s.size : Int) > 1048576
  · exact ⟨0, if_pos h⟩
  · simp only [if_neg h]
    exact Ev.rounds (Ev.bind (spec_hex s) (Ev.bind (impl_hex s) (by simpa using Ev.now true)))
end Go.Proofs.Ytfippnoadhhmbaa.Pure
