/- At every text of at most 2^20 bytes the program's Unhex and the reference's tell the same. No condition but the statement's own. -/
import Derived.Test.YtfippnoadhhmbaaMFnExactUnhexx1
import Derived.Test.YtfippnoadhhmbaaCB
namespace Go.Proofs.Ytfippnoadhhmbaa.Pure
open Go.RowKit Go.Proofs.Ytfippnoadhhmbaa.MFnExactUnhex Go.Proofs.YtfippnoadhhmbaaW.PrintWords Go.Proofs.YtfippnoadhhmbaaW.PrintLast Go.Proofs.Ytfippnoadhhmbaa.CB
/-- A figure of 16. -/
def hexd (x : Nat) : Int := if x < 10 then 48 + x else 87 + x
def hexL : List UInt8 → List Int
  | [] => []
  | b :: l => hexd (b.toNat / 16) :: hexd (b.toNat % 16) :: hexL l
theorem hexL_len (l : List UInt8) : (hexL l).length = 2 * l.length := by
  induction l with
  | nil => rfl
  | cons b l ih => simp [hexL, ih]; omega
theorem hexd_range (x : Nat) (h : x < 16) : 48 ≤ hexd x ∧ hexd x ≤ 102 := by unfold hexd; split <;> omega
/-- What Hex tells. -/
def hexT (s : ByteArray) : ByteArray × Bool := if s.size ≤ 12000 then (strOfNums (hexL s.data.toList), true) else (⟨#[]⟩, false)
theorem bt_nat (s : ByteArray) (i : Nat) (h : i < s.size) : ∃ b : UInt8, s.data.toList.drop i = b :: s.data.toList.drop (i + 1) ∧ bt s i = (b.toNat : Int) ∧ b.toNat < 256 :=
  ⟨_, drop_list s i h, bt_list s i h, UInt8.toNat_lt _⟩
/-- What a figure of 16 stands for; -1 of others. -/
def valB (x : Nat) : Int := if 48 ≤ x ∧ x ≤ 57 then x - 48 else if 97 ≤ x ∧ x ≤ 102 then x - 87 else -1
theorem valB_range (x : Nat) : -1 ≤ valB x ∧ valB x ≤ 15 := by
  unfold valB; split
  · omega
  · split <;> omega
def unhexL : List UInt8 → Option (List Int)
  | [] => some []
  | [_] => some []
  | a :: b :: l => if valB a.toNat < 0 then none else if valB b.toNat < 0 then none else (unhexL l).map fun y => (16 * valB a.toNat + valB b.toNat) :: y
def unhexR (acc : List Int) : Option (List Int) → ByteArray × Bool
  | none => (⟨#[]⟩, false)
  | some y => (strOfNums (acc ++ y), true)
/-- What Unhex tells. -/
def unhexT (s : ByteArray) : ByteArray × Bool := if s.size % 2 = 0 ∧ s.size ≤ 24000 then unhexR [] (unhexL s.data.toList) else (⟨#[]⟩, false)
theorem unhexR_cons (acc : List Int) (x : Int) (o : Option (List Int)) : unhexR acc (o.map fun y => x :: y) = unhexR (acc ++ [x]) o := by
  cases o with
  | none => rfl
  | some y => simp [unhexR]
theorem spec_value (x : Nat) (h : x < 256) : Ev (fun k => spec_l01Value.f k (x : Int)) (valB x) := by
  unfold spec_l01Value.f
  have hj : ∀ (k : Nat) (b : Bool), spec_l01Value.j0 (k + 1) (x : Int) b = if b = true then (some (wrap64 ((wrap64 (x : Int)) - 48))) else (if (x : Int) ≥ 97 then (if (x : Int) ≤ 102 then (some (wrap64 ((wrap64 ((wrap64 (x : Int)) - 97)) + 10))) else (some (-1))) else (some (-1))) := fun _ _ => rfl
  have e0 : wrap64 (x : Int) = x := w64 (by omega) (by omega)
  by_cases h1 : 48 ≤ x ∧ x ≤ 57
  · simp only [if_pos (show (x : Int) ≥ 48 by omega)]
    have e : valB x = x - 48 := by unfold valB; rw [if_pos h1]
    rw [e]
    exact Ev.step (f := fun _ => some ((x : Int) - 48)) (fun k => by rw [hj, if_pos (by simp; omega), e0, w64 (by omega) (by omega)]) (Ev.now _)
  · have hf : Ev (fun k => spec_l01Value.j0 k (x : Int) false) (valB x) := by
      by_cases h2 : 97 ≤ x ∧ x ≤ 102
      · have e : valB x = x - 87 := by unfold valB; rw [if_neg h1, if_pos h2]
        rw [e]
        refine Ev.step (f := fun _ => some ((x : Int) - 87)) (fun k => ?_) (Ev.now _)
        rw [hj, if_neg (by simp), if_pos (by omega), if_pos (by omega), e0, w64 (x := (x : Int) - 97) (by omega) (by omega), w64 (by omega) (by omega)]
        congr 1; omega
      · have e : valB x = -1 := by unfold valB; rw [if_neg h1, if_neg h2]
        rw [e]
        refine Ev.step (f := fun _ => some (-1)) (fun k => ?_) (Ev.now _)
        rw [hj, if_neg (by simp)]
        by_cases h3 : (x : Int) ≥ 97
        · rw [if_pos h3, if_neg (by omega)]
        · rw [if_neg h3]
    by_cases h3 : (x : Int) ≥ 48
    · simp only [if_pos h3, show decide ((x : Int) ≤ 57) = false from decide_eq_false (by omega)]
      exact hf
    · simp only [if_neg h3]
      exact hf
theorem spec_unhex_l0 (s : ByteArray) (hs : s.size ≤ 24000) (h2 : s.size % 2 = 0) : ∀ (d i : Nat) (acc : List Int), s.size - i ≤ 2 * d → acc.length ≤ i → i ≤ s.size → i % 2 = 0 →
    Ev (fun k => spec_Unhex.l0 k s acc (i : Int)) (unhexR acc (unhexL (s.data.toList.drop i))) := by
  intro d
  induction d with
  | zero =>
    intro i acc hd ha hi hi2
    rw [List.drop_eq_nil_of_le (by simpa using (show s.size ≤ i by omega))]
    exact Ev.step (f := fun _ => some (strOfNums acc, true)) (fun k => by simp only [spec_Unhex.l0]; rw [if_neg (by omega)]) (by simpa [unhexL, unhexR] using Ev.now _)
  | succ d ih =>
    intro i acc hd ha hi hi2
    by_cases hlt : i < s.size
    · obtain ⟨a, ea, ea2, hba⟩ := bt_nat s i (by omega)
      obtain ⟨b, eb, eb2, hbb⟩ := bt_nat s (i + 1) (by omega)
      rw [ea, eb]
      have e1 : wrap64 ((i : Int) + 1) = ((i + 1 : Nat) : Int) := by rw [w64 (by omega) (by omega)]; rfl
      have e2 : wrap64 ((i : Int) + 2) = ((i + 2 : Nat) : Int) := by rw [w64 (by omega) (by omega)]; rfl
      have ra := valB_range a.toNat
      have rb := valB_range b.toNat
      refine Ev.step (f := fun k => (spec_l01Value.f k (a.toNat : Int)).bind fun t104 => (spec_l01Value.f k (b.toNat : Int)).bind fun t105 => (if t104 < 0 then (some ((⟨#[]⟩ : ByteArray), false)) else (if t105 < 0 then (some ((⟨#[]⟩ : ByteArray), false)) else (if acc.length < 140737488355328 then (spec_Unhex.l0 k s (acc ++ [(wrap64 ((wrap64 (16 * t104)) + t105)) % 256]) ((i + 2 : Nat) : Int)) else (none))))) (fun k => ?_) ?_
      · simp only [spec_Unhex.l0]
        rw [if_pos (by omega), if_pos (by omega), e1, e2, ea2, eb2]
        simp only [if_pos (show (0 : Int) ≤ ((i + 1 : Nat) : Int) by omega), if_pos (show ((i + 1 : Nat) : Int) < (s.size : Int) by omega)]
      · refine Ev.bind (spec_value a.toNat hba) (Ev.bind (spec_value b.toNat hbb) ?_)
        unfold unhexL
        by_cases h3 : valB a.toNat < 0
        · simp only [if_pos h3]; exact Ev.now _
        · by_cases h4 : valB b.toNat < 0
          · simp only [if_neg h3, if_pos h4]; exact Ev.now _
          · simp only [if_neg h3, if_neg h4, if_pos (show acc.length < 140737488355328 by omega)]
            rw [unhexR_cons, w64 (x := 16 * valB a.toNat) (by omega) (by omega), w64 (by omega) (by omega), show (16 * valB a.toNat + valB b.toNat) % 256 = 16 * valB a.toNat + valB b.toNat by omega]
            exact ih (i + 2) _ (by omega) (by simp; omega) (by omega) (by omega)
    · rw [List.drop_eq_nil_of_le (by simpa using (show s.size ≤ i by omega))]
      exact Ev.step (f := fun _ => some (strOfNums acc, true)) (fun k => by simp only [spec_Unhex.l0]; rw [if_neg (by omega)]) (by simpa [unhexL, unhexR] using Ev.now _)
theorem spec_unhex (s : ByteArray) : Ev (fun k => spec_Unhex.f k s) (unhexT s) := by
  unfold spec_Unhex.f
  have hj : ∀ (k : Nat) (b : Bool), spec_Unhex.j0 (k + 1) s b = if b = true then (some ((⟨#[]⟩ : ByteArray), false)) else (spec_Unhex.l0 k s (([] : List Int)) 0) := fun _ _ => rfl
  by_cases h : s.size % 2 = 0 ∧ s.size ≤ 24000
  · have e : unhexT s = unhexR [] (unhexL s.data.toList) := by unfold unhexT; rw [if_pos h]
    rw [e]
    simp only [if_neg (show ¬ (s.size : Int) > 24000 by omega), show (((s.size : Int) % 2) != 0) = false by simp; omega]
    refine Ev.step (f := fun k => spec_Unhex.l0 k s [] ((0 : Nat) : Int)) (fun k => by rw [hj, if_neg (by simp)]; rfl) ?_
    simpa using spec_unhex_l0 s h.2 h.1 s.size 0 [] (by omega) (by simp) (by omega) rfl
  · have e : unhexT s = (⟨#[]⟩, false) := by unfold unhexT; rw [if_neg h]
    rw [e]
    by_cases h1 : (s.size : Int) > 24000
    · simp only [if_pos h1]
      exact Ev.step (f := fun _ => some ((⟨#[]⟩ : ByteArray), false)) (fun k => by rw [hj, if_pos rfl]) (Ev.now _)
    · simp only [if_neg h1, show (((s.size : Int) % 2) != 0) = true by simp; omega]
      exact Ev.step (f := fun _ => some ((⟨#[]⟩ : ByteArray), false)) (fun k => by rw [hj, if_pos rfl]) (Ev.now _)
theorem index_table : ∀ c : Fin 256, Lib.indexByte [48, 49, 50, 51, 52, 53, 54, 55, 56, 57, 97, 98, 99, 100, 101, 102] (c.val.toUInt8) = valB c.val := by decide +kernel
theorem impl_index (x : Nat) (h : x < 256) : strings_IndexByte.f (⟨#[48, 49, 50, 51, 52, 53, 54, 55, 56, 57, 97, 98, 99, 100, 101, 102]⟩ : ByteArray) (x : Int) = some (valB x) := by
  have h1 := index_table ⟨x, h⟩
  show some (Lib.indexByte _ _) = _
  rw [← h1]; rfl
theorem impl_unhex_l0 (s : ByteArray) (hs : s.size ≤ 24000) (h2 : s.size % 2 = 0) : ∀ (d i : Nat) (acc : List Int), s.size - i ≤ 2 * d → acc.length ≤ i → i ≤ s.size → i % 2 = 0 →
    Ev (fun k => impl_Unhex.l0 k s acc (i : Int)) (unhexR acc (unhexL (s.data.toList.drop i))) := by
  intro d
  induction d with
  | zero =>
    intro i acc hd ha hi hi2
    rw [List.drop_eq_nil_of_le (by simpa using (show s.size ≤ i by omega))]
    exact Ev.step (f := fun _ => some (strOfNums acc, true)) (fun k => by simp only [impl_Unhex.l0]; rw [if_neg (by omega)]) (by simpa [unhexL, unhexR] using Ev.now _)
  | succ d ih =>
    intro i acc hd ha hi hi2
    by_cases hlt : i < s.size
    · obtain ⟨a, ea, ea2, hba⟩ := bt_nat s i (by omega)
      obtain ⟨b, eb, eb2, hbb⟩ := bt_nat s (i + 1) (by omega)
      rw [ea, eb]
      have e1 : wrap64 ((i : Int) + 1) = ((i + 1 : Nat) : Int) := by rw [w64 (by omega) (by omega)]; rfl
      have e2 : wrap64 ((i : Int) + 2) = ((i + 2 : Nat) : Int) := by rw [w64 (by omega) (by omega)]; rfl
      have ra := valB_range a.toNat
      have rb := valB_range b.toNat
      refine Ev.step (f := fun k => (if valB a.toNat < 0 then (some ((⟨#[]⟩ : ByteArray), false)) else (if valB b.toNat < 0 then (some ((⟨#[]⟩ : ByteArray), false)) else (if acc.length < 140737488355328 then (impl_Unhex.l0 k s (acc ++ [(wrap64 ((wrap64 (16 * valB a.toNat)) + valB b.toNat)) % 256]) ((i + 2 : Nat) : Int)) else (none))))) (fun k => ?_) ?_
      · simp only [impl_Unhex.l0]
        rw [if_pos (by omega), if_pos (by omega), e1, e2, ea2, eb2, impl_index _ hba, impl_index _ hbb]
        simp only [Option.bind_some, if_pos (show (0 : Int) ≤ ((i + 1 : Nat) : Int) by omega), if_pos (show ((i + 1 : Nat) : Int) < (s.size : Int) by omega)]
      · unfold unhexL
        by_cases h3 : valB a.toNat < 0
        · simp only [if_pos h3]; exact Ev.now _
        · by_cases h4 : valB b.toNat < 0
          · simp only [if_neg h3, if_pos h4]; exact Ev.now _
          · simp only [if_neg h3, if_neg h4, if_pos (show acc.length < 140737488355328 by omega)]
            rw [unhexR_cons, w64 (x := 16 * valB a.toNat) (by omega) (by omega), w64 (by omega) (by omega), show (16 * valB a.toNat + valB b.toNat) % 256 = 16 * valB a.toNat + valB b.toNat by omega]
            exact ih (i + 2) _ (by omega) (by simp; omega) (by omega) (by omega)
    · rw [List.drop_eq_nil_of_le (by simpa using (show s.size ≤ i by omega))]
      exact Ev.step (f := fun _ => some (strOfNums acc, true)) (fun k => by simp only [impl_Unhex.l0]; rw [if_neg (by omega)]) (by simpa [unhexL, unhexR] using Ev.now _)
theorem impl_unhex (s : ByteArray) : Ev (fun k => impl_Unhex.f k s) (unhexT s) := by
  unfold impl_Unhex.f
  have hj : ∀ (k : Nat) (b : Bool), impl_Unhex.j0 (k + 1) s b = if b = true then (some ((⟨#[]⟩ : ByteArray), false)) else (impl_Unhex.l0 k s (([] : List Int)) 0) := fun _ _ => rfl
  by_cases h : s.size % 2 = 0 ∧ s.size ≤ 24000
  · have e : unhexT s = unhexR [] (unhexL s.data.toList) := by unfold unhexT; rw [if_pos h]
    rw [e]
    simp only [if_pos (show (s.size : Int) % 2 = 0 by omega), show decide ((s.size : Int) > 24000) = false from decide_eq_false (by omega)]
    refine Ev.step (f := fun k => impl_Unhex.l0 k s [] ((0 : Nat) : Int)) (fun k => by rw [hj, if_neg (by simp)]; rfl) ?_
    simpa using impl_unhex_l0 s h.2 h.1 s.size 0 [] (by omega) (by simp) (by omega) rfl
  · have e : unhexT s = (⟨#[]⟩, false) := by unfold unhexT; rw [if_neg h]
    rw [e]
    by_cases h1 : (s.size : Int) % 2 = 0
    · simp only [if_pos h1, show decide ((s.size : Int) > 24000) = true from decide_eq_true (by omega)]
      exact Ev.step (f := fun _ => some ((⟨#[]⟩ : ByteArray), false)) (fun k => by rw [hj, if_pos rfl]) (Ev.now _)
    · simp only [if_neg h1]
      exact Ev.step (f := fun _ => some ((⟨#[]⟩ : ByteArray), false)) (fun k => by rw [hj, if_pos rfl]) (Ev.now _)
theorem FnExactUnhex : laws_FnExactUnhex.Pure := by
  intro s hs
  unfold laws_FnExactUnhex.f
  by_cases h : (s.size : Int) > 1048576
  · exact ⟨0, if_pos h⟩
  · simp only [if_neg h]
    exact Ev.rounds (Ev.bind (spec_unhex s) (Ev.bind (impl_unhex s) (by simpa using Ev.now true)))
end Go.Proofs.Ytfippnoadhhmbaa.Pure
