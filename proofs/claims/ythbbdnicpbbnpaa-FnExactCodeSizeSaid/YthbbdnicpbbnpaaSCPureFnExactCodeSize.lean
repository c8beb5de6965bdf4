/- At every image the program's CodeSize and the reference's tell the same, and the image stays as it was. No condition but the statement's own. -/
import Derived.Test.YthbbdnicpbbnpaaSCMFnExactCodeSizex0
import Derived.Test.YthbbdnicpbbnpaaSCMFnExactCodeSizex1
import Derived.Test.YthbbdnicpbbnpaaSCMFnExactCodeSizex10
import Derived.Test.YthbbdnicpbbnpaaSCMFnExactCodeSizex11
import Derived.Test.YthbbdnicpbbnpaaSCMFnExactCodeSizex12
import Derived.Test.YthbbdnicpbbnpaaSCMFnExactCodeSizex13
import Derived.Test.YthbbdnicpbbnpaaSCMFnExactCodeSizex2
import Derived.Test.YthbbdnicpbbnpaaSCMFnExactCodeSizex3
import Derived.Test.YthbbdnicpbbnpaaSCMFnExactCodeSizex4
import Derived.Test.YthbbdnicpbbnpaaSCMFnExactCodeSizex5
import Derived.Test.YthbbdnicpbbnpaaSCMFnExactCodeSizex6
import Derived.Test.YthbbdnicpbbnpaaSCMFnExactCodeSizex7
import Derived.Test.YthbbdnicpbbnpaaSCMFnExactCodeSizex8
import Derived.Test.YthbbdnicpbbnpaaSCMFnExactCodeSizex9
import Derived.Test.YthbbdnicpbbnpaaSCCB
namespace Go.Proofs.Ythbbdnicpbbnpaa.Pure
open Go.RowKit Go.Proofs.Ythbbdnicpbbnpaa.MFnExactCodeSize Go.Proofs.YthbbdnicpbbnpaaW.PrintWords Go.Proofs.YthbbdnicpbbnpaaW.PrintLast Go.Proofs.Ythbbdnicpbbnpaa.CB
/-- The value of numbers, the lowest first, to a base. -/
def valI (B : Int) : List Int → Int
  | [] => 0
  | x :: l => x + B * valI B l
theorem valI_append (B : Int) (l m : List Int) : valI B (l ++ m) = valI B l + B ^ l.length * valI B m := by
  induction l with
  | nil => simp [valI]
  | cons x l ih =>
    simp only [List.cons_append, valI, ih, List.length_cons, Int.pow_succ]
    grind
theorem valI_set (B : Int) (v : Int) : ∀ (l : List Int) (i : Nat), i < l.length → valI B (l.set i v) = valI B l + B ^ i * (v - l.getD i 0) := by
  intro l
  induction l with
  | nil => intro i h; simp at h
  | cons x l ih =>
    intro i h
    cases i with
    | zero => simp [valI]; omega
    | succ i =>
      have := ih i (by simpa using h)
      simp only [List.set_cons_succ, valI, this, List.getD_cons_succ, Int.pow_succ]
      grind
theorem valI_take_succ (B : Int) (l : List Int) (i : Nat) (h : i < l.length) : valI B (l.take (i + 1)) = valI B (l.take i) + B ^ i * l.getD i 0 := by
  rw [List.take_succ_eq_append_getElem h, valI_append]
  have : (l.take i).length = i := by simp; omega
  rw [this]
  simp [valI, List.getD_eq_getElem?_getD, List.getElem?_eq_getElem h]
theorem valI_zeros (B : Int) (n : Nat) : valI B (List.replicate n 0) = 0 := by
  induction n with
  | zero => rfl
  | succ n ih => rw [List.replicate_succ]; simp [valI, ih]
theorem valI_split (B : Int) (l : List Int) (i : Nat) (h : i ≤ l.length) : valI B l = valI B (l.take i) + B ^ i * valI B (l.drop i) := by
  conv => lhs; rw [← List.take_append_drop i l]
  rw [valI_append]
  have : (l.take i).length = i := by simp; omega
  rw [this]
theorem valI_range (B : Int) (hB : 0 < B) (l : List Int) (h : ∀ x ∈ l, 0 ≤ x ∧ x < B) : 0 ≤ valI B l ∧ valI B l < B ^ l.length := by
  induction l with
  | nil => simp [valI]
  | cons x l ih =>
    have h1 := h x (by simp)
    have h2 := ih (fun y hy => h y (by simp [hy]))
    simp only [valI, List.length_cons, Int.pow_succ]
    have h3 : 0 ≤ B * valI B l := Int.mul_nonneg (by omega) h2.1
    have h4 : B * valI B l ≤ B * (B ^ l.length - 1) := Int.mul_le_mul_of_nonneg_left (by omega) (by omega)
    have h5 : B * (B ^ l.length - 1) = B ^ l.length * B - B := by grind
    omega
theorem rd_nat (l : List Int) (i : Nat) : rd l (i : Int) = l.getD i 0 := by unfold rd; rw [Int.toNat_natCast]
theorem getD_mem (l : List Int) (i : Nat) (h : i < l.length) : l.getD i 0 ∈ l := by
  rw [List.getD_eq_getElem?_getD, List.getElem?_eq_getElem h]; simp
theorem getD_set_eq (l : List Int) (i : Nat) (v : Int) (h : i < l.length) : (l.set i v).getD i 0 = v := by
  simp [List.getD_eq_getElem?_getD, h]
theorem getD_set_ne (l : List Int) (i j : Nat) (v : Int) (h : i ≠ j) : (l.set i v).getD j 0 = l.getD j 0 := by
  simp [List.getD_eq_getElem?_getD, List.getElem?_set_ne h]
theorem set_last (m : Nat) (z d : Int) (T : List Int) : (List.replicate (m + 1) z ++ T).set m d = List.replicate m z ++ d :: T := by
  rw [List.replicate_succ', List.append_assoc, List.set_append_right _ _ (by simp)]
  simp
theorem getD_out (l : List Int) (i : Nat) (h : l.length ≤ i) : l.getD i 0 = 0 := by rw [List.getD_eq_getElem?_getD, List.getElem?_eq_none h]; rfl
theorem getD_zeros (n j : Nat) : (List.replicate n (0 : Int)).getD j 0 = 0 := by
  by_cases h : j < n
  · rw [List.getD_eq_getElem?_getD, List.getElem?_replicate]; simp [h]
  · rw [getD_out _ _ (by simp; omega)]
theorem drop_all {α : Type} (p : α → Bool) (l : List α) (z : α) (i : Nat) (h : i < l.length) : (l.drop i).all p = (p (l.getD i z) && (l.drop (i + 1)).all p) := by
  rw [List.drop_eq_getElem_cons h, List.all_cons, List.getD_eq_getElem?_getD, List.getElem?_eq_getElem h]
  rfl
theorem drop_end {α : Type} (p : α → Bool) (l : List α) (i : Nat) (h : l.length ≤ i) : (l.drop i).all p = true := by
  rw [List.drop_of_length_le h]; rfl
theorem set_map {α β : Type} (f : α → β) (l : List α) (za : α) (z : β) (i : Nat) (h : i < l.length) : ((l.take i).map f ++ List.replicate (l.length - i) z).set i (f (l.getD i za)) = (l.take (i + 1)).map f ++ List.replicate (l.length - (i + 1)) z := by
  rw [List.set_append_right _ _ (by simp; omega), show l.length - i = (l.length - (i + 1)) + 1 by omega, List.replicate_succ, List.take_succ_eq_append_getElem h]
  have e : i - ((l.take i).map f).length = 0 := by simp; omega
  rw [e, List.set_cons_zero, List.getD_eq_getElem?_getD, List.getElem?_eq_getElem h]
  simp only [List.map_append, List.map_cons, List.map_nil, List.append_assoc, List.cons_append, List.nil_append, Option.getD_some]
theorem get_map {α β : Type} (f : α → β) (l : List α) (za : α) (zb : β) (i : Nat) (h : i < l.length) : (l.map f).getD i zb = f (l.getD i za) := by
  rw [List.getD_eq_getElem?_getD, List.getD_eq_getElem?_getD, List.getElem?_map, List.getElem?_eq_getElem h]
  rfl
def capC (x : S157) : S131 := ⟨x.f0, x.f1⟩
def insC (x : S159) : S133 := ⟨x.f0, x.f1, x.f2⟩
def hndC (x : S161) : S135 := ⟨x.f0, x.f1, x.f2⟩
def cstC (x : S128) : S103 := ⟨x.f0, x.f1, x.f2⟩
def fnC (x : S126) : S109 := ⟨x.f0, x.f1, x.f2.map capC, x.f3.map insC, x.f4.map hndC⟩
theorem to_Cap_l0 (l : List S157) (hl : l.length ≤ 1048576) : ∀ (d i : Nat), l.length - i = d → i ≤ l.length → Ev (fun k => laws_toCapS.l0 k l ((l.take i).map capC ++ List.replicate (l.length - i) z131) (i : Int)) (l.map capC) := by
  intro d
  induction d with
  | zero =>
    intro i hd hi
    obtain rfl : i = l.length := by omega
    refine Ev.step (f := fun _ => some (l.map capC)) (fun k => ?_) (Ev.now _)
    simp only [laws_toCapS.l0]
    rw [if_neg (by omega), List.take_of_length_le (by omega), Nat.sub_self]
    simp
  | succ d ih =>
    intro i hd hi
    refine Ev.step (fun k => ?_) (ih (i + 1) (by omega) (by omega))
    simp only [laws_toCapS.l0, laws_toCap.f, Option.bind_some]
    rw [if_pos (by omega), if_pos (by omega), if_pos (by simp; omega), w64s (by omega), Int.toNat_natCast, ← set_map capC l z157 z131 i (by omega)]
    rfl
theorem to_Cap (l : List S157) (hl : l.length ≤ 1048576) : Ev (fun k => laws_toCapS.f k l) (l.map capC) := by
  have h := to_Cap_l0 l hl l.length 0 (by omega) (by omega)
  unfold laws_toCapS.f
  simp only [if_pos (show (0 : Int) ≤ (l.length : Int) by omega), Int.toNat_natCast, if_pos (show l.length ≤ 17592186044416 by omega)]
  simpa using h
theorem eq_Cap_l0 (l : List S131) (hl : l.length ≤ 1048576) : ∀ (d i : Nat), l.length - i = d → i ≤ l.length → Ev (fun k => laws_eqCapS.l0 k l l (i : Int)) true := by
  intro d
  induction d with
  | zero =>
    intro i hd hi
    refine Ev.step (f := fun _ => some true) (fun k => ?_) (Ev.now _)
    simp only [laws_eqCapS.l0]
    rw [if_neg (by omega)]
  | succ d ih =>
    intro i hd hi
    refine Ev.step (fun k => ?_) (ih (i + 1) (by omega) (by omega))
    have e : ∀ x : S131, laws_eqCap.f x.f0 x.f1 x.f0 x.f1 = some true := by intro x; unfold laws_eqCap.f; simp
    simp only [laws_eqCapS.l0, e, Option.bind_some, if_true]
    rw [if_pos (by omega), if_pos (by omega), if_pos (by omega), w64s (by omega)]
theorem eq_Cap (l : List S131) (hl : l.length ≤ 1048576) : Ev (fun k => laws_eqCapS.f k l l) true := by
  unfold laws_eqCapS.f
  simp only [if_true]
  exact eq_Cap_l0 l hl l.length 0 (by omega) (by omega)
theorem to_Ins_l0 (l : List S159) (hl : l.length ≤ 1048576) : ∀ (d i : Nat), l.length - i = d → i ≤ l.length → Ev (fun k => laws_toInsS.l0 k l ((l.take i).map insC ++ List.replicate (l.length - i) z133) (i : Int)) (l.map insC) := by
  intro d
  induction d with
  | zero =>
    intro i hd hi
    obtain rfl : i = l.length := by omega
    refine Ev.step (f := fun _ => some (l.map insC)) (fun k => ?_) (Ev.now _)
    simp only [laws_toInsS.l0]
    rw [if_neg (by omega), List.take_of_length_le (by omega), Nat.sub_self]
    simp
  | succ d ih =>
    intro i hd hi
    refine Ev.step (fun k => ?_) (ih (i + 1) (by omega) (by omega))
    simp only [laws_toInsS.l0, laws_toIns.f, Option.bind_some]
    rw [if_pos (by omega), if_pos (by omega), if_pos (by simp; omega), w64s (by omega), Int.toNat_natCast, ← set_map insC l z159 z133 i (by omega)]
    rfl
theorem to_Ins (l : List S159) (hl : l.length ≤ 1048576) : Ev (fun k => laws_toInsS.f k l) (l.map insC) := by
  have h := to_Ins_l0 l hl l.length 0 (by omega) (by omega)
  unfold laws_toInsS.f
  simp only [if_pos (show (0 : Int) ≤ (l.length : Int) by omega), Int.toNat_natCast, if_pos (show l.length ≤ 11728124029610 by omega)]
  simpa using h
theorem eq_Ins_l0 (l : List S133) (hl : l.length ≤ 1048576) : ∀ (d i : Nat), l.length - i = d → i ≤ l.length → Ev (fun k => laws_eqInsS.l0 k l l (i : Int)) true := by
  intro d
  induction d with
  | zero =>
    intro i hd hi
    refine Ev.step (f := fun _ => some true) (fun k => ?_) (Ev.now _)
    simp only [laws_eqInsS.l0]
    rw [if_neg (by omega)]
  | succ d ih =>
    intro i hd hi
    refine Ev.step (fun k => ?_) (ih (i + 1) (by omega) (by omega))
    have e : ∀ x : S133, laws_eqIns.f x.f0 x.f1 x.f2 x.f0 x.f1 x.f2 = some true := by intro x; unfold laws_eqIns.f; simp
    simp only [laws_eqInsS.l0, e, Option.bind_some, if_true]
    rw [if_pos (by omega), if_pos (by omega), if_pos (by omega), w64s (by omega)]
theorem eq_Ins (l : List S133) (hl : l.length ≤ 1048576) : Ev (fun k => laws_eqInsS.f k l l) true := by
  unfold laws_eqInsS.f
  simp only [if_true]
  exact eq_Ins_l0 l hl l.length 0 (by omega) (by omega)
theorem to_Handler_l0 (l : List S161) (hl : l.length ≤ 1048576) : ∀ (d i : Nat), l.length - i = d → i ≤ l.length → Ev (fun k => laws_toHandlerS.l0 k l ((l.take i).map hndC ++ List.replicate (l.length - i) z135) (i : Int)) (l.map hndC) := by
  intro d
  induction d with
  | zero =>
    intro i hd hi
    obtain rfl : i = l.length := by omega
    refine Ev.step (f := fun _ => some (l.map hndC)) (fun k => ?_) (Ev.now _)
    simp only [laws_toHandlerS.l0]
    rw [if_neg (by omega), List.take_of_length_le (by omega), Nat.sub_self]
    simp
  | succ d ih =>
    intro i hd hi
    refine Ev.step (fun k => ?_) (ih (i + 1) (by omega) (by omega))
    simp only [laws_toHandlerS.l0, laws_toHandler.f, Option.bind_some]
    rw [if_pos (by omega), if_pos (by omega), if_pos (by simp; omega), w64s (by omega), Int.toNat_natCast, ← set_map hndC l z161 z135 i (by omega)]
    rfl
theorem to_Handler (l : List S161) (hl : l.length ≤ 1048576) : Ev (fun k => laws_toHandlerS.f k l) (l.map hndC) := by
  have h := to_Handler_l0 l hl l.length 0 (by omega) (by omega)
  unfold laws_toHandlerS.f
  simp only [if_pos (show (0 : Int) ≤ (l.length : Int) by omega), Int.toNat_natCast, if_pos (show l.length ≤ 11728124029610 by omega)]
  simpa using h
theorem eq_Handler_l0 (l : List S135) (hl : l.length ≤ 1048576) : ∀ (d i : Nat), l.length - i = d → i ≤ l.length → Ev (fun k => laws_eqHandlerS.l0 k l l (i : Int)) true := by
  intro d
  induction d with
  | zero =>
    intro i hd hi
    refine Ev.step (f := fun _ => some true) (fun k => ?_) (Ev.now _)
    simp only [laws_eqHandlerS.l0]
    rw [if_neg (by omega)]
  | succ d ih =>
    intro i hd hi
    refine Ev.step (fun k => ?_) (ih (i + 1) (by omega) (by omega))
    have e : ∀ x : S135, laws_eqHandler.f x.f0 x.f1 x.f2 x.f0 x.f1 x.f2 = some true := by intro x; unfold laws_eqHandler.f; simp
    simp only [laws_eqHandlerS.l0, e, Option.bind_some, if_true]
    rw [if_pos (by omega), if_pos (by omega), if_pos (by omega), w64s (by omega)]
theorem eq_Handler (l : List S135) (hl : l.length ≤ 1048576) : Ev (fun k => laws_eqHandlerS.f k l l) true := by
  unfold laws_eqHandlerS.f
  simp only [if_true]
  exact eq_Handler_l0 l hl l.length 0 (by omega) (by omega)
theorem to_Const_l0 (l : List S128) (hl : l.length ≤ 1048576) : ∀ (d i : Nat), l.length - i = d → i ≤ l.length → Ev (fun k => laws_toConstS.l0 k l ((l.take i).map cstC ++ List.replicate (l.length - i) z103) (i : Int)) (l.map cstC) := by
  intro d
  induction d with
  | zero =>
    intro i hd hi
    obtain rfl : i = l.length := by omega
    refine Ev.step (f := fun _ => some (l.map cstC)) (fun k => ?_) (Ev.now _)
    simp only [laws_toConstS.l0]
    rw [if_neg (by omega), List.take_of_length_le (by omega), Nat.sub_self]
    simp
  | succ d ih =>
    intro i hd hi
    refine Ev.step (fun k => ?_) (ih (i + 1) (by omega) (by omega))
    simp only [laws_toConstS.l0, laws_toConst.f, Option.bind_some]
    rw [if_pos (by omega), if_pos (by omega), if_pos (by simp; omega), w64s (by omega), Int.toNat_natCast, ← set_map cstC l z128 z103 i (by omega)]
    rfl
theorem to_Const (l : List S128) (hl : l.length ≤ 1048576) : Ev (fun k => laws_toConstS.f k l) (l.map cstC) := by
  have h := to_Const_l0 l hl l.length 0 (by omega) (by omega)
  unfold laws_toConstS.f
  simp only [if_pos (show (0 : Int) ≤ (l.length : Int) by omega), Int.toNat_natCast, if_pos (show l.length ≤ 8796093022208 by omega)]
  simpa using h
theorem eq_Const_l0 (l : List S103) (hl : l.length ≤ 1048576) : ∀ (d i : Nat), l.length - i = d → i ≤ l.length → Ev (fun k => laws_eqConstS.l0 k l l (i : Int)) true := by
  intro d
  induction d with
  | zero =>
    intro i hd hi
    refine Ev.step (f := fun _ => some true) (fun k => ?_) (Ev.now _)
    simp only [laws_eqConstS.l0]
    rw [if_neg (by omega)]
  | succ d ih =>
    intro i hd hi
    refine Ev.step (fun k => ?_) (ih (i + 1) (by omega) (by omega))
    have e : ∀ x : S103, laws_eqConst.f x.f0 x.f1 x.f2 x.f0 x.f1 x.f2 = some true := by intro x; unfold laws_eqConst.f; simp
    simp only [laws_eqConstS.l0, e, Option.bind_some, if_true]
    rw [if_pos (by omega), if_pos (by omega), if_pos (by omega), w64s (by omega)]
theorem eq_Const (l : List S103) (hl : l.length ≤ 1048576) : Ev (fun k => laws_eqConstS.f k l l) true := by
  unfold laws_eqConstS.f
  simp only [if_true]
  exact eq_Const_l0 l hl l.length 0 (by omega) (by omega)
/-- A function's lists are short. -/
def short126 (x : S126) : Prop := x.f2.length ≤ 1048576 ∧ x.f3.length ≤ 1048576 ∧ x.f4.length ≤ 1048576
theorem getD_all' {α : Type} (p : α → Prop) (l : List α) (z : α) (h : ∀ x ∈ l, p x) (i : Nat) (hi : i < l.length) : p (l.getD i z) := by
  rw [List.getD_eq_getElem?_getD, List.getElem?_eq_getElem hi]
  exact h _ (List.getElem_mem hi)
theorem to_func (x : S126) (h : short126 x) : Ev (fun k => laws_toFunc.f k x.f0 x.f1 x.f2 x.f3 x.f4) (x.f0, x.f1, x.f2.map capC, x.f3.map insC, x.f4.map hndC) := by
  unfold laws_toFunc.f
  exact Ev.bind (to_Cap _ h.1) (Ev.bind (to_Ins _ h.2.1) (Ev.bind (to_Handler _ h.2.2) (Ev.now _)))
theorem to_Func_l0 (l : List S126) (hl : l.length ≤ 1048576) (hs : ∀ x ∈ l, short126 x) : ∀ (d i : Nat), l.length - i = d → i ≤ l.length → Ev (fun k => laws_toFuncS.l0 k l ((l.take i).map fnC ++ List.replicate (l.length - i) z109) (i : Int)) (l.map fnC) := by
  intro d
  induction d with
  | zero =>
    intro i hd hi
    obtain rfl : i = l.length := by omega
    refine Ev.step (f := fun _ => some (l.map fnC)) (fun k => ?_) (Ev.now _)
    simp only [laws_toFuncS.l0]
    rw [if_neg (by omega), List.take_of_length_le (by omega), Nat.sub_self]
    simp
  | succ d ih =>
    intro i hd hi
    have hx := getD_all' short126 l z126 hs i (by omega)
    have ht := to_func _ hx
    have h' := ih (i + 1) (by omega) (by omega)
    rw [← set_map fnC l z126 z109 i (by omega)] at h'
    refine Ev.step (f := fun k => (laws_toFunc.f k (l.getD i z126).f0 (l.getD i z126).f1 (l.getD i z126).f2 (l.getD i z126).f3 (l.getD i z126).f4).bind fun bt => laws_toFuncS.l0 k l (((l.take i).map fnC ++ List.replicate (l.length - i) z109).set i (⟨bt.1, bt.2.1, bt.2.2.1, bt.2.2.2.1, bt.2.2.2.2⟩ : S109)) ((i + 1 : Nat) : Int)) (fun k => ?_) (Ev.bind ht h')
    have q : ((i : Int) < ((((l.take i).map fnC ++ List.replicate (l.length - i) z109).length : Nat) : Int)) := by simp; omega
    simp only [laws_toFuncS.l0, if_pos q]
    rw [if_pos (by omega), if_pos (by omega), w64s (by omega)]
    rfl
theorem to_Func (l : List S126) (hl : l.length ≤ 1048576) (hs : ∀ x ∈ l, short126 x) : Ev (fun k => laws_toFuncS.f k l) (l.map fnC) := by
  have h := to_Func_l0 l hl hs l.length 0 (by omega) (by omega)
  unfold laws_toFuncS.f
  simp only [if_pos (show (0 : Int) ≤ (l.length : Int) by omega), Int.toNat_natCast, if_pos (show l.length ≤ 3198579280802 by omega)]
  simpa using h
theorem to_image (F : List S126) (C : List S128) (hF : F.length ≤ 1048576) (hs : ∀ x ∈ F, short126 x) (hC : C.length ≤ 1048576) : Ev (fun k => laws_toImage.f k F C) (F.map fnC, C.map cstC) := by
  unfold laws_toImage.f
  exact Ev.bind (to_Func F hF hs) (Ev.bind (to_Const C hC) (Ev.now _))
def short109 (x : S109) : Prop := x.f2.length ≤ 1048576 ∧ x.f3.length ≤ 1048576 ∧ x.f4.length ≤ 1048576
theorem eq_func (x : S109) (h : short109 x) : Ev (fun k => laws_eqFunc.f k x.f0 x.f1 x.f2 x.f3 x.f4 x.f0 x.f1 x.f2 x.f3 x.f4) true := by
  unfold laws_eqFunc.f
  simp only [if_true]
  refine Ev.bind (eq_Cap _ h.1) ?_
  simp only [if_true]
  refine Ev.bind (eq_Ins _ h.2.1) ?_
  simp only [if_true]
  refine Ev.bind (eq_Handler _ h.2.2) ?_
  simp only [if_true]
  exact Ev.now _
theorem eq_Func_l0 (l : List S109) (hl : l.length ≤ 1048576) (hs : ∀ x ∈ l, short109 x) : ∀ (d i : Nat), l.length - i = d → i ≤ l.length → Ev (fun k => laws_eqFuncS.l0 k l l (i : Int)) true := by
  intro d
  induction d with
  | zero =>
    intro i hd hi
    refine Ev.step (f := fun _ => some true) (fun k => ?_) (Ev.now _)
    simp only [laws_eqFuncS.l0]
    rw [if_neg (by omega)]
  | succ d ih =>
    intro i hd hi
    have hx := getD_all' short109 l z109 hs i (by omega)
    refine Ev.step (f := fun k => (laws_eqFunc.f k (l.getD i z109).f0 (l.getD i z109).f1 (l.getD i z109).f2 (l.getD i z109).f3 (l.getD i z109).f4 (l.getD i z109).f0 (l.getD i z109).f1 (l.getD i z109).f2 (l.getD i z109).f3 (l.getD i z109).f4).bind fun t => if t = true then laws_eqFuncS.l0 k l l ((i + 1 : Nat) : Int) else some false) (fun k => ?_) (Ev.bind (eq_func _ hx) ?_)
    · simp only [laws_eqFuncS.l0]
      rw [if_pos (by omega), if_pos (by omega), if_pos (by omega), w64s (by omega)]
      rfl
    · simp only [if_true]
      exact ih (i + 1) (by omega) (by omega)
theorem eq_Func (l : List S109) (hl : l.length ≤ 1048576) (hs : ∀ x ∈ l, short109 x) : Ev (fun k => laws_eqFuncS.f k l l) true := by
  unfold laws_eqFuncS.f
  simp only [if_true]
  exact eq_Func_l0 l hl hs l.length 0 (by omega) (by omega)
theorem eq_image (F : List S109) (C : List S103) (hF : F.length ≤ 1048576) (hs : ∀ x ∈ F, short109 x) (hC : C.length ≤ 1048576) : Ev (fun k => laws_eqImage.f k F C F C) true := by
  unfold laws_eqImage.f
  refine Ev.bind (eq_Func F hF hs) ?_
  simp only [if_true]
  refine Ev.bind (eq_Const C hC) ?_
  simp only [if_true]
  exact Ev.now _
theorem spec_in (a b c : Int) : spec_l01In.f a b c = some (decide (b ≤ a ∧ a ≤ c)) := by
  unfold spec_l01In.f
  by_cases h : a ≥ b
  · rw [if_pos h]; simp; omega
  · rw [if_neg h]; simp; omega
theorem impl_in (a b c : Int) : impl_within.f a b c = some (decide (b ≤ a ∧ a ≤ c)) := by
  unfold impl_within.f
  by_cases h : a ≥ b
  · rw [if_pos h]; simp; omega
  · rw [if_neg h]; simp; omega
def inB (x a b : Int) : Bool := decide (a ≤ x ∧ x ≤ b)
def capB (x : S131) : Bool := inB x.f1 0 40
def insB (x : S133) : Bool := inB x.f0 1 19 && inB x.f1 0 300 && inB x.f2 0 300
def hndB (x : S135) : Bool := inB x.f0 0 300 && inB x.f1 0 300 && inB x.f2 0 300
/-- What both tell of a function. -/
def funcB (x : S109) : Bool := inB x.f0 0 4 && (inB x.f1 x.f0 40 && (!decide ((x.f2.length : Int) > 20) && (inB (x.f3.length : Int) 1 300 && (!decide ((x.f4.length : Int) > 40) && (x.f2.all capB && (x.f3.all insB && x.f4.all hndB))))))
theorem spec_l2 (a b : Int) (l2 : List S131) (l3 : List S133) (l4 : List S135) (h4 : l4.length ≤ 1048576) : ∀ (d i : Nat), l4.length - i = d → i ≤ l4.length → Ev (fun k => spec_l13Func.l2 k (i : Int) a b l2 l3 l4) ((l4.drop i).all hndB) := by
  intro d
  induction d with
  | zero =>
    intro i hd hi
    rw [drop_end _ _ _ (by omega)]
    refine Ev.step (f := fun _ => some true) (fun k => ?_) (Ev.now _)
    simp only [spec_l13Func.l2]
    rw [if_neg (by omega)]
  | succ d ih =>
    intro i hd hi
    rw [drop_all hndB l4 z135 i (by omega)]
    have hr : ∀ k, spec_l13Func.l2 (k + 1) (i : Int) a b l2 l3 l4 = if hndB (l4.getD i z135) = true then spec_l13Func.l2 k ((i + 1 : Nat) : Int) a b l2 l3 l4 else some false := by
      intro k
      simp only [spec_l13Func.l2, spec_in, Option.bind_some, rd_T135, Int.toNat_natCast]
      rw [if_pos (by omega), if_pos (by omega), w64s (by omega)]
      generalize l4.getD i z135 = y
      unfold hndB inB
      simp only [Bool.and_eq_true, decide_eq_true_eq]
      by_cases q0 : 0 ≤ y.f0 ∧ y.f0 ≤ 300 <;> by_cases q1 : 0 ≤ y.f1 ∧ y.f1 ≤ 300 <;> by_cases q2 : 0 ≤ y.f2 ∧ y.f2 ≤ 300 <;> simp [q0, q1, q2]
    by_cases hp : hndB (l4.getD i z135) = true
    · rw [hp, Bool.true_and]
      exact Ev.step (fun k => by rw [hr, if_pos hp]) (ih (i + 1) (by omega) (by omega))
    · rw [Bool.not_eq_true] at hp
      rw [hp, Bool.false_and]
      exact Ev.step (f := fun _ => some false) (fun k => by rw [hr, hp]; rfl) (Ev.now _)
theorem spec_l1 (a b : Int) (l2 : List S131) (l3 : List S133) (l4 : List S135) (h3 : l3.length ≤ 1048576) (h4 : l4.length ≤ 1048576) : ∀ (d i : Nat), l3.length - i = d → i ≤ l3.length → Ev (fun k => spec_l13Func.l1 k (i : Int) a b l2 l3 l4) ((l3.drop i).all insB && l4.all hndB) := by
  intro d
  induction d with
  | zero =>
    intro i hd hi
    rw [drop_end _ _ _ (by omega), Bool.true_and]
    refine Ev.step (f := fun k => spec_l13Func.l2 k 0 a b l2 l3 l4) (fun k => ?_) (spec_l2 a b l2 l3 l4 h4 l4.length 0 (by omega) (by omega))
    simp only [spec_l13Func.l1]
    rw [if_neg (by omega)]
  | succ d ih =>
    intro i hd hi
    rw [drop_all insB l3 z133 i (by omega)]
    have hr : ∀ k, spec_l13Func.l1 (k + 1) (i : Int) a b l2 l3 l4 = if insB (l3.getD i z133) = true then spec_l13Func.l1 k ((i + 1 : Nat) : Int) a b l2 l3 l4 else some false := by
      intro k
      simp only [spec_l13Func.l1, spec_in, Option.bind_some, rd_T133, Int.toNat_natCast]
      rw [if_pos (by omega), if_pos (by omega), w64s (by omega)]
      generalize l3.getD i z133 = y
      unfold insB inB
      simp only [Bool.and_eq_true, decide_eq_true_eq]
      by_cases q0 : 1 ≤ y.f0 ∧ y.f0 ≤ 19 <;> by_cases q1 : 0 ≤ y.f1 ∧ y.f1 ≤ 300 <;> by_cases q2 : 0 ≤ y.f2 ∧ y.f2 ≤ 300 <;> simp [q0, q1, q2]
    by_cases hp : insB (l3.getD i z133) = true
    · rw [hp, Bool.true_and]
      exact Ev.step (fun k => by rw [hr, if_pos hp]) (ih (i + 1) (by omega) (by omega))
    · rw [Bool.not_eq_true] at hp
      rw [hp, Bool.false_and, Bool.false_and]
      exact Ev.step (f := fun _ => some false) (fun k => by rw [hr, hp]; rfl) (Ev.now _)
theorem spec_l0 (a b : Int) (l2 : List S131) (l3 : List S133) (l4 : List S135) (h2 : l2.length ≤ 1048576) (h3 : l3.length ≤ 1048576) (h4 : l4.length ≤ 1048576) : ∀ (d i : Nat), l2.length - i = d → i ≤ l2.length → Ev (fun k => spec_l13Func.l0 k (i : Int) a b l2 l3 l4) ((l2.drop i).all capB && (l3.all insB && l4.all hndB)) := by
  intro d
  induction d with
  | zero =>
    intro i hd hi
    rw [drop_end _ _ _ (by omega), Bool.true_and]
    refine Ev.step (f := fun k => spec_l13Func.l1 k 0 a b l2 l3 l4) (fun k => ?_) (spec_l1 a b l2 l3 l4 h3 h4 l3.length 0 (by omega) (by omega))
    simp only [spec_l13Func.l0]
    rw [if_neg (by omega)]
  | succ d ih =>
    intro i hd hi
    rw [drop_all capB l2 z131 i (by omega)]
    have hr : ∀ k, spec_l13Func.l0 (k + 1) (i : Int) a b l2 l3 l4 = if capB (l2.getD i z131) = true then spec_l13Func.l0 k ((i + 1 : Nat) : Int) a b l2 l3 l4 else some false := by
      intro k
      simp only [spec_l13Func.l0, spec_in, Option.bind_some, rd_T131, Int.toNat_natCast]
      rw [if_pos (by omega), if_pos (by omega), w64s (by omega)]
      rfl
    by_cases hp : capB (l2.getD i z131) = true
    · rw [hp, Bool.true_and]
      exact Ev.step (fun k => by rw [hr, if_pos hp]) (ih (i + 1) (by omega) (by omega))
    · rw [Bool.not_eq_true] at hp
      rw [hp, Bool.false_and, Bool.false_and]
      exact Ev.step (f := fun _ => some false) (fun k => by rw [hr, hp]; rfl) (Ev.now _)
theorem spec_func (x : S109) (h : short109 x) : Ev (fun k => spec_l13Func.f k x.f0 x.f1 x.f2 x.f3 x.f4) (funcB x) := by
  have hj : ∀ (k : Nat) (z : Bool), spec_l13Func.j0 (k + 1) z x.f0 x.f1 x.f2 x.f3 x.f4 = if z = true then some false else spec_l13Func.l0 k 0 x.f0 x.f1 x.f2 x.f3 x.f4 := fun _ _ => rfl
  have hbad : ∀ r, r = false → Ev (fun k => spec_l13Func.j0 k true x.f0 x.f1 x.f2 x.f3 x.f4) r := by
    intro r hr
    subst hr
    exact Ev.step (f := fun _ => some false) (fun k => by rw [hj]; rfl) (Ev.now _)
  have hgo := spec_l0 x.f0 x.f1 x.f2 x.f3 x.f4 h.1 h.2.1 h.2.2 x.f2.length 0 (by omega) (by omega)
  unfold spec_l13Func.f
  simp only [spec_in, Option.bind_some]
  unfold funcB
  by_cases q0 : inB x.f0 0 4 = true
  · rw [q0, Bool.true_and]
    unfold inB at q0
    simp only [if_pos q0]
    by_cases q1 : inB x.f1 x.f0 40 = true
    · rw [q1, Bool.true_and]
      unfold inB at q1
      simp only [if_pos q1]
      by_cases q2 : (x.f2.length : Int) > 20
      · simp only [if_pos q2]
        exact hbad _ (by rw [decide_eq_true q2]; rfl)
      · simp only [if_neg q2]
        rw [decide_eq_false q2, Bool.not_false, Bool.true_and]
        by_cases q3 : inB (x.f3.length : Int) 1 300 = true
        · rw [q3, Bool.true_and]
          unfold inB at q3
          simp only [if_pos q3]
          by_cases q4 : (x.f4.length : Int) > 40
          · rw [decide_eq_true q4]
            exact hbad _ rfl
          · rw [decide_eq_false q4, Bool.not_false, Bool.true_and]
            exact Ev.step (f := fun k => spec_l13Func.l0 k 0 x.f0 x.f1 x.f2 x.f3 x.f4) (fun k => by rw [hj]; rfl) hgo
        · have q3' : inB (x.f3.length : Int) 1 300 = false := by simpa using q3
          unfold inB at q3
          simp only [if_neg q3]
          exact hbad _ (by rw [q3', Bool.false_and])
    · have q1' : inB x.f1 x.f0 40 = false := by simpa using q1
      unfold inB at q1
      simp only [if_neg q1]
      exact hbad _ (by rw [q1', Bool.false_and])
  · have q0' : inB x.f0 0 4 = false := by simpa using q0
    unfold inB at q0
    simp only [if_neg q0]
    exact hbad _ (by rw [q0', Bool.false_and])
theorem impl_l2 (l4 : List S135) (h4 : l4.length ≤ 1048576) : ∀ (d i : Nat), l4.length - i = d → i ≤ l4.length → Ev (fun k => impl_funcOk.l2 k l4 (l4.length : Int) (i : Int)) ((l4.drop i).all hndB) := by
  intro d
  induction d with
  | zero =>
    intro i hd hi
    rw [drop_end _ _ _ (by omega)]
    refine Ev.step (f := fun _ => some true) (fun k => ?_) (Ev.now _)
    simp only [impl_funcOk.l2]
    rw [if_neg (by omega)]
  | succ d ih =>
    intro i hd hi
    rw [drop_all hndB l4 z135 i (by omega)]
    have hr : ∀ k, impl_funcOk.l2 (k + 1) l4 (l4.length : Int) (i : Int) = if hndB (l4.getD i z135) = true then impl_funcOk.l2 k l4 (l4.length : Int) ((i + 1 : Nat) : Int) else some false := by
      intro k
      simp only [impl_funcOk.l2, impl_in, Option.bind_some, rd_T135, Int.toNat_natCast]
      rw [if_pos (by omega), if_pos (by omega), if_pos (by omega), w64s (by omega)]
      generalize l4.getD i z135 = y
      unfold hndB inB
      simp only [Bool.and_eq_true, decide_eq_true_eq]
      by_cases q0 : 0 ≤ y.f0 ∧ y.f0 ≤ 300 <;> by_cases q1 : 0 ≤ y.f1 ∧ y.f1 ≤ 300 <;> by_cases q2 : 0 ≤ y.f2 ∧ y.f2 ≤ 300 <;> simp [q0, q1, q2]
    by_cases hp : hndB (l4.getD i z135) = true
    · rw [hp, Bool.true_and]
      exact Ev.step (fun k => by rw [hr, if_pos hp]) (ih (i + 1) (by omega) (by omega))
    · rw [Bool.not_eq_true] at hp
      rw [hp, Bool.false_and]
      exact Ev.step (f := fun _ => some false) (fun k => by rw [hr, hp]; rfl) (Ev.now _)
theorem impl_l1 (a b : Int) (l2 : List S131) (l3 : List S133) (l4 : List S135) (h3 : l3.length ≤ 1048576) (h4 : l4.length ≤ 1048576) : ∀ (d i : Nat), l3.length - i = d → i ≤ l3.length → Ev (fun k => impl_funcOk.l1 k l3 (l3.length : Int) (i : Int) a b l2 l3 l4) ((l3.drop i).all insB && l4.all hndB) := by
  intro d
  induction d with
  | zero =>
    intro i hd hi
    rw [drop_end _ _ _ (by omega), Bool.true_and]
    refine Ev.step (f := fun k => impl_funcOk.l2 k l4 (l4.length : Int) 0) (fun k => ?_) (impl_l2 l4 h4 l4.length 0 (by omega) (by omega))
    simp only [impl_funcOk.l1]
    rw [if_neg (by omega)]
  | succ d ih =>
    intro i hd hi
    rw [drop_all insB l3 z133 i (by omega)]
    have hr : ∀ k, impl_funcOk.l1 (k + 1) l3 (l3.length : Int) (i : Int) a b l2 l3 l4 = if insB (l3.getD i z133) = true then impl_funcOk.l1 k l3 (l3.length : Int) ((i + 1 : Nat) : Int) a b l2 l3 l4 else some false := by
      intro k
      simp only [impl_funcOk.l1, impl_in, Option.bind_some, rd_T133, Int.toNat_natCast]
      rw [if_pos (by omega), if_pos (by omega), if_pos (by omega), w64s (by omega)]
      generalize l3.getD i z133 = y
      unfold insB inB
      simp only [Bool.and_eq_true, decide_eq_true_eq]
      by_cases q0 : 1 ≤ y.f0 ∧ y.f0 ≤ 19 <;> by_cases q1 : 0 ≤ y.f1 ∧ y.f1 ≤ 300 <;> by_cases q2 : 0 ≤ y.f2 ∧ y.f2 ≤ 300 <;> simp [q0, q1, q2]
    by_cases hp : insB (l3.getD i z133) = true
    · rw [hp, Bool.true_and]
      exact Ev.step (fun k => by rw [hr, if_pos hp]) (ih (i + 1) (by omega) (by omega))
    · rw [Bool.not_eq_true] at hp
      rw [hp, Bool.false_and, Bool.false_and]
      exact Ev.step (f := fun _ => some false) (fun k => by rw [hr, hp]; rfl) (Ev.now _)
theorem impl_l0 (a b : Int) (l2 : List S131) (l3 : List S133) (l4 : List S135) (h2 : l2.length ≤ 1048576) (h3 : l3.length ≤ 1048576) (h4 : l4.length ≤ 1048576) : ∀ (d i : Nat), l2.length - i = d → i ≤ l2.length → Ev (fun k => impl_funcOk.l0 k l2 (l2.length : Int) (i : Int) a b l2 l3 l4) ((l2.drop i).all capB && (l3.all insB && l4.all hndB)) := by
  intro d
  induction d with
  | zero =>
    intro i hd hi
    rw [drop_end _ _ _ (by omega), Bool.true_and]
    refine Ev.step (f := fun k => impl_funcOk.l1 k l3 (l3.length : Int) 0 a b l2 l3 l4) (fun k => ?_) (impl_l1 a b l2 l3 l4 h3 h4 l3.length 0 (by omega) (by omega))
    simp only [impl_funcOk.l0]
    rw [if_neg (by omega)]
  | succ d ih =>
    intro i hd hi
    rw [drop_all capB l2 z131 i (by omega)]
    have hr : ∀ k, impl_funcOk.l0 (k + 1) l2 (l2.length : Int) (i : Int) a b l2 l3 l4 = if capB (l2.getD i z131) = true then impl_funcOk.l0 k l2 (l2.length : Int) ((i + 1 : Nat) : Int) a b l2 l3 l4 else some false := by
      intro k
      simp only [impl_funcOk.l0, impl_in, Option.bind_some, rd_T131, Int.toNat_natCast]
      rw [if_pos (by omega), if_pos (by omega), if_pos (by omega), w64s (by omega)]
      rfl
    by_cases hp : capB (l2.getD i z131) = true
    · rw [hp, Bool.true_and]
      exact Ev.step (fun k => by rw [hr, if_pos hp]) (ih (i + 1) (by omega) (by omega))
    · rw [Bool.not_eq_true] at hp
      rw [hp, Bool.false_and, Bool.false_and]
      exact Ev.step (f := fun _ => some false) (fun k => by rw [hr, hp]; rfl) (Ev.now _)
theorem impl_func (x : S109) (h : short109 x) : Ev (fun k => impl_funcOk.f k x.f0 x.f1 x.f2 x.f3 x.f4) (funcB x) := by
  have hj : ∀ (k : Nat) (z : Bool), impl_funcOk.j0 (k + 1) z x.f0 x.f1 x.f2 x.f3 x.f4 = if z = true then some false else impl_funcOk.l0 k x.f2 (x.f2.length : Int) 0 x.f0 x.f1 x.f2 x.f3 x.f4 := fun _ _ => rfl
  have hbad : ∀ r, r = false → Ev (fun k => impl_funcOk.j0 k true x.f0 x.f1 x.f2 x.f3 x.f4) r := by
    intro r hr
    subst hr
    exact Ev.step (f := fun _ => some false) (fun k => by rw [hj]; rfl) (Ev.now _)
  have hgo := impl_l0 x.f0 x.f1 x.f2 x.f3 x.f4 h.1 h.2.1 h.2.2 x.f2.length 0 (by omega) (by omega)
  unfold impl_funcOk.f
  simp only [impl_in, Option.bind_some]
  unfold funcB
  by_cases q0 : inB x.f0 0 4 = true
  · rw [q0, Bool.true_and]
    unfold inB at q0
    simp only [if_pos q0]
    by_cases q1 : inB x.f1 x.f0 40 = true
    · rw [q1, Bool.true_and]
      unfold inB at q1
      simp only [if_pos q1]
      by_cases q2 : (x.f2.length : Int) > 20
      · simp only [if_pos q2]
        exact hbad _ (by rw [decide_eq_true q2]; rfl)
      · simp only [if_neg q2]
        rw [decide_eq_false q2, Bool.not_false, Bool.true_and]
        by_cases q3 : inB (x.f3.length : Int) 1 300 = true
        · rw [q3, Bool.true_and]
          unfold inB at q3
          simp only [if_pos q3]
          by_cases q4 : (x.f4.length : Int) > 40
          · rw [decide_eq_true q4]
            exact hbad _ rfl
          · rw [decide_eq_false q4, Bool.not_false, Bool.true_and]
            exact Ev.step (f := fun k => impl_funcOk.l0 k x.f2 (x.f2.length : Int) 0 x.f0 x.f1 x.f2 x.f3 x.f4) (fun k => by rw [hj]; rfl) hgo
        · have q3' : inB (x.f3.length : Int) 1 300 = false := by simpa using q3
          unfold inB at q3
          simp only [if_neg q3]
          exact hbad _ (by rw [q3', Bool.false_and])
    · have q1' : inB x.f1 x.f0 40 = false := by simpa using q1
      unfold inB at q1
      simp only [if_neg q1]
      exact hbad _ (by rw [q1', Bool.false_and])
  · have q0' : inB x.f0 0 4 = false := by simpa using q0
    unfold inB at q0
    simp only [if_neg q0]
    exact hbad _ (by rw [q0', Bool.false_and])
theorem spec_pow_l0 (n : Nat) (hn : n ≤ 63) : ∀ (d i : Nat), n - i = d → i ≤ n → Ev (fun k => spec_l03Pow.l0 k (n : Int) ((2 ^ i : Nat) : Int) (i : Int)) ((2 ^ n : Nat) : Int) := by
  intro d
  induction d with
  | zero =>
    intro i hd hi
    obtain rfl : i = n := by omega
    exact Ev.step (f := fun _ => some ((2 ^ i : Nat) : Int)) (fun k => by simp only [spec_l03Pow.l0]; rw [if_neg (by omega)]) (Ev.now _)
  | succ d ih =>
    intro i hd hi
    refine Ev.step (fun k => ?_) (ih (i + 1) (by omega) (by omega))
    simp only [spec_l03Pow.l0]
    have hp : 2 ^ (i + 1) ≤ 2 ^ 63 := Nat.pow_le_pow_right (by omega) (by omega)
    rw [if_pos (by omega), wu64, w64 (by omega) (by omega)]
    rw [Nat.pow_succ] at hp
    rw [show ((2 ^ i : Nat) : Int) * 2 % 18446744073709551616 = ((2 ^ (i + 1) : Nat) : Int) by rw [Nat.pow_succ]; omega]
    rfl
theorem spec_pow (n : Nat) (hn : n ≤ 63) : Ev (fun k => spec_l03Pow.f k (n : Int)) ((2 ^ n : Nat) : Int) := by
  unfold spec_l03Pow.f; exact spec_pow_l0 n hn n 0 (by omega) (by omega)
theorem spec_pow63 : Ev (fun k => spec_l03Pow.f k 63) 9223372036854775808 := spec_pow 63 (by omega)
/-- The parts of a number: kind, below, mantissa, exponent. -/
def partsN (x : Nat) : Int × Bool × Int × Int :=
  if 9218868437227405312 < x % 9223372036854775808 then (1, false, 0, 0)
  else if x % 9223372036854775808 = 9218868437227405312 then (2, decide (9223372036854775808 ≤ x), 0, 0)
  else if x % 9223372036854775808 = 0 then (3, decide (9223372036854775808 ≤ x), 0, 0)
  else if x % 9223372036854775808 < 4503599627370496 then (4, decide (9223372036854775808 ≤ x), ((x % 4503599627370496 : Nat) : Int), -1074)
  else (4, decide (9223372036854775808 ≤ x), ((x % 4503599627370496 + 4503599627370496 : Nat) : Int), ((x / 4503599627370496 % 2048 : Nat) : Int) - 1075)
def nanB (x : Nat) : Bool := decide (9218868437227405312 < x % 9223372036854775808)
theorem partsN_kind (x : Nat) : ((partsN x).1 == 1) = nanB x := by
  unfold partsN nanB
  split
  · rename_i h; simp [h]
  · rename_i h; rw [decide_eq_false h]; split
    · rfl
    · split
      · rfl
      · split <;> rfl
/-- The parts of a finite number. -/
theorem parts_fin (x : Nat) (_hx : x < 18446744073709551616) (h : (partsN x).1 = 4) : ∃ (b : Bool) (m : Nat) (e : Int), partsN x = (4, b, (m : Int), e) ∧ m ≠ 0 ∧ m < 9007199254740992 ∧ -1074 ≤ e ∧ e ≤ 971 ∧ (e ≠ -1074 → 4503599627370496 ≤ m) := by
  revert h
  unfold partsN
  split
  · intro h; exact absurd (show (1 : Int) = 4 from h) (by decide)
  · split
    · intro h; exact absurd (show (2 : Int) = 4 from h) (by decide)
    · split
      · intro h; exact absurd (show (3 : Int) = 4 from h) (by decide)
      · split
        · intro _; exact ⟨_, _, _, rfl, by omega, by omega, by omega, by omega, fun h => absurd rfl h⟩
        · intro _; exact ⟨_, _, _, rfl, by omega, by omega, by omega, by omega, fun _ => by omega⟩
theorem spec_parts_j1 (k : Nat) (e f : Int) (b z : Bool) : spec_PartsOfNumber.j1 (k + 1) e f z 0 b 0 0 = if z = true then some (3, b, 0, 0) else if e = 0 then some (4, b, f, (-1074)) else some (4, b, IntKind.u64.wrap (f + 4503599627370496), wrap64 (e - 1075)) := rfl
theorem spec_parts_j0 (k : Nat) (e f : Int) (b z : Bool) : spec_PartsOfNumber.j0 (k + 1) e f z 0 b 0 0 = if z = true then some (1, false, 0, 0) else if e = 2047 then some (2, b, 0, 0) else if e = 0 then spec_PartsOfNumber.j1 k e f (f == 0) 0 b 0 0 else spec_PartsOfNumber.j1 k e f false 0 b 0 0 := rfl
theorem spec_parts (x : Nat) (hx : x < 18446744073709551616) : Ev (fun k => spec_PartsOfNumber.f k (x : Int)) (partsN x) := by
  unfold spec_PartsOfNumber.f
  refine Ev.bind spec_pow63 ?_
  simp only [if_neg (show ¬ (9223372036854775808 : Int) = 0 by omega)]
  have e1 : wrap64 (Int.tmod (IntKind.u64.wrap (Int.tdiv (x : Int) 4503599627370496)) 2048) = ((x / 4503599627370496 % 2048 : Nat) : Int) := by
    rw [wu64, tdivN (Int.natCast_nonneg x), tmodN (by omega), w64 (by omega) (by omega)]; omega
  have e2 : Int.tmod (x : Int) 4503599627370496 = ((x % 4503599627370496 : Nat) : Int) := by rw [tmodN (Int.natCast_nonneg x)]; omega
  have e3 : ((IntKind.u64.wrap (Int.tdiv (x : Int) 9223372036854775808)) == 1) = decide (9223372036854775808 ≤ x) := by
    rw [wu64, tdivN (Int.natCast_nonneg x), Bool.eq_iff_iff]; simp; omega
  rw [e1, e2, e3]
  generalize hb : decide (9223372036854775808 ≤ x) = b
  have hp : partsN x = if 9218868437227405312 < x % 9223372036854775808 then (1, false, 0, 0)
    else if x % 9223372036854775808 = 9218868437227405312 then (2, b, 0, 0)
    else if x % 9223372036854775808 = 0 then (3, b, 0, 0)
    else if x % 9223372036854775808 < 4503599627370496 then (4, b, ((x % 4503599627370496 : Nat) : Int), -1074)
    else (4, b, ((x % 4503599627370496 + 4503599627370496 : Nat) : Int), ((x / 4503599627370496 % 2048 : Nat) : Int) - 1075) := by unfold partsN; rw [hb]
  rw [hp]
  by_cases h1 : x / 4503599627370496 % 2048 = 2047
  · simp only [if_pos (show ((x / 4503599627370496 % 2048 : Nat) : Int) = 2047 by omega)]
    by_cases h2 : x % 4503599627370496 = 0
    · rw [if_neg (by omega), if_pos (by omega)]
      exact Ev.step (f := fun _ => some (2, b, 0, 0)) (fun k => by rw [spec_parts_j0, if_neg (by simp [h2]), if_pos (by omega)]) (Ev.now _)
    · rw [if_pos (by omega)]
      exact Ev.step (f := fun _ => some (1, false, 0, 0)) (fun k => by rw [spec_parts_j0, if_pos (by simp; omega)]) (Ev.now _)
  · simp only [if_neg (show ¬ ((x / 4503599627370496 % 2048 : Nat) : Int) = 2047 by omega)]
    rw [if_neg (by omega), if_neg (by omega)]
    by_cases h2 : x / 4503599627370496 % 2048 = 0
    · refine Ev.step (f := fun k => spec_PartsOfNumber.j1 k ((x / 4503599627370496 % 2048 : Nat) : Int) ((x % 4503599627370496 : Nat) : Int) (((x % 4503599627370496 : Nat) : Int) == 0) 0 b 0 0) (fun k => by rw [spec_parts_j0, if_neg (by simp), if_neg (by omega), if_pos (by omega)]) ?_
      by_cases h3 : x % 4503599627370496 = 0
      · rw [if_pos (by omega)]
        exact Ev.step (f := fun _ => some (3, b, 0, 0)) (fun k => by rw [spec_parts_j1, if_pos (by simp [h3])]) (Ev.now _)
      · rw [if_neg (by omega), if_pos (by omega)]
        exact Ev.step (f := fun _ => some (4, b, ((x % 4503599627370496 : Nat) : Int), -1074)) (fun k => by rw [spec_parts_j1, if_neg (by simp; omega), if_pos (by omega)]) (Ev.now _)
    · refine Ev.step (f := fun k => spec_PartsOfNumber.j1 k ((x / 4503599627370496 % 2048 : Nat) : Int) ((x % 4503599627370496 : Nat) : Int) false 0 b 0 0) (fun k => by rw [spec_parts_j0, if_neg (by simp), if_neg (by omega), if_neg (by omega)]) ?_
      rw [if_neg (by omega), if_neg (by omega)]
      refine Ev.step (f := fun _ => some (4, b, ((x % 4503599627370496 + 4503599627370496 : Nat) : Int), ((x / 4503599627370496 % 2048 : Nat) : Int) - 1075)) (fun k => ?_) (Ev.now _)
      rw [spec_parts_j1, if_neg (by simp), if_neg (by omega), wu64, w64 (by omega) (by omega), show (((x % 4503599627370496 : Nat) : Int) + 4503599627370496) % 18446744073709551616 = ((x % 4503599627370496 + 4503599627370496 : Nat) : Int) by omega]
theorem spec_nan (x : Nat) (hx : x < 18446744073709551616) : Ev (fun k => spec_l03Nan.f k (x : Int)) (nanB x) := by
  unfold spec_l03Nan.f
  refine Ev.bind (spec_parts x hx) ?_
  rw [partsN_kind]
  exact Ev.now _
theorem impl_nan (x : Nat) (hx : x < 18446744073709551616) : impl_isNaN.f (x : Int) = some (nanB x) := by
  unfold impl_isNaN.f nanB
  rw [and63 x hx]
  congr 1
  rw [decide_eq_decide]; omega
/-- No text. -/
def noT (t : ByteArray) : Bool := t.toList == ([] : List UInt8)
/-- A constant whose number is not used. -/
def bareB (n v : Int) (t : ByteArray) : Option Bool := if n = 3 then (if v = 0 then some (noT t) else some false) else if n = 4 then (if v = 0 then some (noT t) else some false) else if n = 5 then (if v = 0 then some (noT t) else some false) else some false
/-- What both tell of a constant. -/
def constB (n : Int) (v : Nat) (t : ByteArray) : Bool :=
  if n = 1 then (noT t && (!nanB v || decide ((v : Int) = 9221120237041090560)))
  else if n = 2 then (decide ((t.size : Int) ≤ 40) && decide ((v : Int) = 0))
  else (bareB n v t).getD false
theorem bare_some (n v : Int) (t : ByteArray) : bareB n v t = some ((bareB n v t).getD false) := by
  unfold bareB
  by_cases hv : v = 0
  · simp only [if_pos hv]
    by_cases h3 : n = 3
    · simp [h3]
    · by_cases h4 : n = 4
      · simp [h4]
      · by_cases h5 : n = 5
        · simp [h5]
        · simp [h3, h4, h5]
  · simp [hv]
theorem spec_const (n : Int) (v : Nat) (t : ByteArray) (hv : v < 18446744073709551616) : Ev (fun k => spec_ConstOk.f k n (v : Int) t) (constB n v t) := by
  have hr : ∀ k, spec_ConstOk.f k n (v : Int) t = if n = 1 then (if t.toList = ([] : List UInt8) then ((spec_l03Nan.f k (v : Int)).bind fun t110 => (if t110 = true then (some ((v : Int) == 9221120237041090560)) else (some true))) else (some false)) else (if n = 2 then (if (v : Int) = 0 then (some (decide ((t.size : Int) ≤ 40))) else (some false)) else bareB n v t) := fun _ => rfl
  simp only [hr]
  unfold constB
  by_cases h1 : n = 1
  · simp only [if_pos h1]
    by_cases ht : t.toList = ([] : List UInt8)
    · have hn : noT t = true := by unfold noT; rw [ht]; rfl
      simp only [if_pos ht, hn, Bool.true_and]
      refine Ev.bind (spec_nan v hv) ?_
      cases nanB v with
      | true =>
        simp only [if_true, Bool.not_true, Bool.false_or]
        exact Ev.now _
      | false =>
        simp only [Bool.false_eq_true, if_false, Bool.not_false, Bool.true_or]
        exact Ev.now _
    · have hn : noT t = false := by unfold noT; simpa using ht
      simp only [if_neg ht, hn, Bool.false_and]
      exact Ev.now _
  · simp only [if_neg h1]
    by_cases h2 : n = 2
    · simp only [if_pos h2]
      by_cases h0 : (v : Int) = 0
      · simp only [if_pos h0, decide_eq_true h0, Bool.and_true]
        exact Ev.now _
      · simp only [if_neg h0, decide_eq_false h0, Bool.and_false]
        exact Ev.now _
    · simp only [if_neg h2]
      rw [bare_some]
      exact Ev.now _
theorem impl_const (n : Int) (v : Nat) (t : ByteArray) (hv : v < 18446744073709551616) : impl_ConstOk.f n (v : Int) t = some (constB n v t) := by
  have hr : impl_ConstOk.f n (v : Int) t = if n = 1 then ((impl_isNaN.f (v : Int)).bind fun t115 => (if t115 = true then (if (v : Int) = 9221120237041090560 then (some (noT t)) else (some false)) else (some (noT t)))) else (if n = 2 then (if (t.size : Int) ≤ 40 then (some ((v : Int) == 0)) else (some false)) else bareB n v t) := rfl
  rw [hr, impl_nan v hv]
  unfold constB
  simp only [Option.bind_some]
  by_cases h1 : n = 1
  · simp only [if_pos h1]
    cases nanB v with
    | true =>
      by_cases h2 : (v : Int) = 9221120237041090560
      · simp only [if_true, if_pos h2, decide_eq_true h2, Bool.or_true, Bool.and_true]
      · simp only [if_true, if_neg h2, decide_eq_false h2, Bool.not_true, Bool.or_false, Bool.and_false]
    | false => simp only [Bool.false_eq_true, if_false, Bool.not_false, Bool.true_or, Bool.and_true]
  · simp only [if_neg h1]
    by_cases h2 : n = 2
    · simp only [if_pos h2]
      by_cases h0 : (t.size : Int) ≤ 40
      · simp only [if_pos h0, decide_eq_true h0, Bool.true_and]
        rfl
      · simp only [if_neg h0, decide_eq_false h0, Bool.false_and]
    · simp only [if_neg h2]
      rw [bare_some]
      rfl
def wide103 (x : S103) : Prop := 0 ≤ x.f1 ∧ x.f1 < 18446744073709551616
def cstB (x : S103) : Bool := constB x.f0 x.f1.toNat x.f2
theorem spec_cst (x : S103) (h : wide103 x) : Ev (fun k => spec_ConstOk.f k x.f0 x.f1 x.f2) (cstB x) := by
  have := spec_const x.f0 x.f1.toNat x.f2 (by have := h.2; have := h.1; omega)
  rwa [show ((x.f1.toNat : Nat) : Int) = x.f1 by have := h.1; omega] at this
theorem impl_cst (x : S103) (h : wide103 x) : impl_ConstOk.f x.f0 x.f1 x.f2 = some (cstB x) := by
  have := impl_const x.f0 x.f1.toNat x.f2 (by have := h.2; have := h.1; omega)
  rwa [show ((x.f1.toNat : Nat) : Int) = x.f1 by have := h.1; omega] at this
/-- The first function takes nothing and catches nothing. -/
def headB (F : List S109) : Bool := decide ((rd_T109 F 0).f0 = 0) && ((((rd_T109 F 0).f2.length : Nat) : Int) == 0)
def imageB (F : List S109) (C : List S103) : Bool := inB (F.length : Int) 1 16 && (!decide ((C.length : Int) > 40) && (C.all cstB && (F.all funcB && headB F)))
theorem spec_im_l1 (F : List S109) (C : List S103) (hF : F.length ≤ 1048576) (h1 : 1 ≤ F.length) (hs : ∀ x ∈ F, short109 x) : ∀ (d i : Nat), F.length - i = d → i ≤ F.length → Ev (fun k => spec_ImageOk.l1 k (i : Int) F C) ((F.drop i).all funcB && headB F) := by
  intro d
  induction d with
  | zero =>
    intro i hd hi
    rw [drop_end _ _ _ (by omega), Bool.true_and]
    refine Ev.step (f := fun _ => some (headB F)) (fun k => ?_) (Ev.now _)
    simp only [spec_ImageOk.l1]
    rw [if_neg (by omega), if_pos (by omega)]
    unfold headB
    by_cases h0 : (rd_T109 F 0).f0 = 0
    · rw [if_pos h0, decide_eq_true h0, Bool.true_and]
    · rw [if_neg h0, decide_eq_false h0, Bool.false_and]
  | succ d ih =>
    intro i hd hi
    rw [drop_all funcB F z109 i (by omega)]
    have hx := getD_all' short109 F z109 hs i (by omega)
    have hr : ∀ k, spec_ImageOk.l1 (k + 1) (i : Int) F C = (spec_l13Func.f k (F.getD i z109).f0 (F.getD i z109).f1 (F.getD i z109).f2 (F.getD i z109).f3 (F.getD i z109).f4).bind fun t => if t = true then spec_ImageOk.l1 k ((i + 1 : Nat) : Int) F C else some false := by
      intro k
      simp only [spec_ImageOk.l1, rd_T109, Int.toNat_natCast]
      rw [if_pos (by omega), if_pos (by omega), w64s (by omega)]
    refine Ev.step hr (Ev.bind (spec_func _ hx) ?_)
    cases funcB (F.getD i z109) with
    | true => simpa using ih (i + 1) (by omega) (by omega)
    | false => simpa using Ev.now false
theorem spec_im_l0 (F : List S109) (C : List S103) (hF : F.length ≤ 1048576) (h1 : 1 ≤ F.length) (hs : ∀ x ∈ F, short109 x) (hC : C.length ≤ 1048576) (hw : ∀ x ∈ C, wide103 x) : ∀ (d i : Nat), C.length - i = d → i ≤ C.length → Ev (fun k => spec_ImageOk.l0 k (i : Int) F C) ((C.drop i).all cstB && (F.all funcB && headB F)) := by
  intro d
  induction d with
  | zero =>
    intro i hd hi
    rw [drop_end _ _ _ (by omega), Bool.true_and]
    refine Ev.step (f := fun k => spec_ImageOk.l1 k 0 F C) (fun k => ?_) (spec_im_l1 F C hF h1 hs F.length 0 (by omega) (by omega))
    simp only [spec_ImageOk.l0]
    rw [if_neg (by omega)]
  | succ d ih =>
    intro i hd hi
    rw [drop_all cstB C z103 i (by omega)]
    have hx := getD_all' wide103 C z103 hw i (by omega)
    have hr : ∀ k, spec_ImageOk.l0 (k + 1) (i : Int) F C = (spec_ConstOk.f k (C.getD i z103).f0 (C.getD i z103).f1 (C.getD i z103).f2).bind fun t => if t = true then spec_ImageOk.l0 k ((i + 1 : Nat) : Int) F C else some false := by
      intro k
      simp only [spec_ImageOk.l0, rd_T103, Int.toNat_natCast]
      rw [if_pos (by omega), if_pos (by omega), w64s (by omega)]
    refine Ev.step hr (Ev.bind (spec_cst _ hx) ?_)
    cases cstB (C.getD i z103) with
    | true => simpa using ih (i + 1) (by omega) (by omega)
    | false => simpa using Ev.now false
theorem spec_image (F : List S109) (C : List S103) (hF : F.length ≤ 1048576) (hs : ∀ x ∈ F, short109 x) (hC : C.length ≤ 1048576) (hw : ∀ x ∈ C, wide103 x) : Ev (fun k => spec_ImageOk.f k F C) (imageB F C) := by
  have hj : ∀ (k : Nat) (z : Bool), spec_ImageOk.j0 (k + 1) z F C = if z = true then some false else spec_ImageOk.l0 k 0 F C := fun _ _ => rfl
  have hbad : ∀ r, r = false → Ev (fun k => spec_ImageOk.j0 k true F C) r := by
    intro r hr
    subst hr
    exact Ev.step (f := fun _ => some false) (fun k => by rw [hj]; rfl) (Ev.now _)
  unfold spec_ImageOk.f imageB
  simp only [spec_in, Option.bind_some]
  by_cases q : 1 ≤ (F.length : Int) ∧ (F.length : Int) ≤ 16
  · have q' : inB (F.length : Int) 1 16 = true := decide_eq_true q
    rw [q', Bool.true_and, decide_eq_true q]
    simp only [if_true]
    by_cases q2 : (C.length : Int) > 40
    · rw [decide_eq_true q2]
      exact hbad _ rfl
    · rw [decide_eq_false q2, Bool.not_false, Bool.true_and]
      exact Ev.step (f := fun k => spec_ImageOk.l0 k 0 F C) (fun k => by rw [hj]; rfl) (spec_im_l0 F C hF (by omega) hs hC hw C.length 0 (by omega) (by omega))
  · have q' : inB (F.length : Int) 1 16 = false := decide_eq_false q
    rw [q', Bool.false_and, decide_eq_false q]
    simp only [Bool.false_eq_true, if_false]
    exact hbad _ rfl
theorem impl_im_l1 (F : List S109) (hF : F.length ≤ 1048576) (hs : ∀ x ∈ F, short109 x) : ∀ (d i : Nat), F.length - i = d → i ≤ F.length → Ev (fun k => impl_ImageOk.l1 k F (F.length : Int) (i : Int)) ((F.drop i).all funcB) := by
  intro d
  induction d with
  | zero =>
    intro i hd hi
    rw [drop_end _ _ _ (by omega)]
    refine Ev.step (f := fun _ => some true) (fun k => ?_) (Ev.now _)
    simp only [impl_ImageOk.l1]
    rw [if_neg (by omega)]
  | succ d ih =>
    intro i hd hi
    rw [drop_all funcB F z109 i (by omega)]
    have hx := getD_all' short109 F z109 hs i (by omega)
    have hr : ∀ k, impl_ImageOk.l1 (k + 1) F (F.length : Int) (i : Int) = (impl_funcOk.f k (F.getD i z109).f0 (F.getD i z109).f1 (F.getD i z109).f2 (F.getD i z109).f3 (F.getD i z109).f4).bind fun t => if t = true then impl_ImageOk.l1 k F (F.length : Int) ((i + 1 : Nat) : Int) else some false := by
      intro k
      simp only [impl_ImageOk.l1, rd_T109, Int.toNat_natCast]
      rw [if_pos (by omega), if_pos (by omega), if_pos (by omega), w64s (by omega)]
    refine Ev.step hr (Ev.bind (impl_func _ hx) ?_)
    cases funcB (F.getD i z109) with
    | true => simpa using ih (i + 1) (by omega) (by omega)
    | false => simpa using Ev.now false
theorem impl_im_l0 (F : List S109) (C : List S103) (hF : F.length ≤ 1048576) (hs : ∀ x ∈ F, short109 x) (hC : C.length ≤ 1048576) (hw : ∀ x ∈ C, wide103 x) : ∀ (d i : Nat), C.length - i = d → i ≤ C.length → Ev (fun k => impl_ImageOk.l0 k C (C.length : Int) (i : Int) F C) ((C.drop i).all cstB && F.all funcB) := by
  intro d
  induction d with
  | zero =>
    intro i hd hi
    rw [drop_end _ _ _ (by omega), Bool.true_and]
    refine Ev.step (f := fun k => impl_ImageOk.l1 k F (F.length : Int) 0) (fun k => ?_) (impl_im_l1 F hF hs F.length 0 (by omega) (by omega))
    simp only [impl_ImageOk.l0]
    rw [if_neg (by omega)]
  | succ d ih =>
    intro i hd hi
    rw [drop_all cstB C z103 i (by omega)]
    have hx := getD_all' wide103 C z103 hw i (by omega)
    have hr : ∀ k, impl_ImageOk.l0 (k + 1) C (C.length : Int) (i : Int) F C = if cstB (C.getD i z103) = true then impl_ImageOk.l0 k C (C.length : Int) ((i + 1 : Nat) : Int) F C else some false := by
      intro k
      simp only [impl_ImageOk.l0, rd_T103, Int.toNat_natCast, impl_cst _ hx, Option.bind_some]
      rw [if_pos (by omega), if_pos (by omega), if_pos (by omega), w64s (by omega)]
    refine Ev.step hr ?_
    cases cstB (C.getD i z103) with
    | true => simpa using ih (i + 1) (by omega) (by omega)
    | false => simpa using Ev.now false
theorem impl_image (F : List S109) (C : List S103) (hF : F.length ≤ 1048576) (hs : ∀ x ∈ F, short109 x) (hC : C.length ≤ 1048576) (hw : ∀ x ∈ C, wide103 x) : Ev (fun k => impl_ImageOk.f k F C) (imageB F C) := by
  have hj : ∀ (k : Nat) (z : Bool), impl_ImageOk.j0 (k + 1) z F C = if z = true then some false else impl_ImageOk.l0 k C (C.length : Int) 0 F C := fun _ _ => rfl
  have hbad : ∀ r, r = false → Ev (fun k => impl_ImageOk.j0 k true F C) r := by
    intro r hr
    subst hr
    exact Ev.step (f := fun _ => some false) (fun k => by rw [hj]; rfl) (Ev.now _)
  unfold impl_ImageOk.f imageB
  simp only [impl_in, Option.bind_some]
  by_cases q : 1 ≤ (F.length : Int) ∧ (F.length : Int) ≤ 16
  · have q' : inB (F.length : Int) 1 16 = true := decide_eq_true q
    rw [q', Bool.true_and, decide_eq_true q]
    simp only [if_true]
    by_cases q2 : (C.length : Int) > 40
    · simp only [if_pos q2]
      exact hbad _ (by rw [decide_eq_true q2]; rfl)
    · simp only [if_neg q2, if_pos (show (0 : Int) < (F.length : Int) by omega)]
      rw [decide_eq_false q2, Bool.not_false, Bool.true_and]
      unfold headB
      by_cases h0 : (rd_T109 F 0).f0 = 0
      · simp only [if_pos h0]
        rw [decide_eq_true h0, Bool.true_and]
        by_cases h2 : (((rd_T109 F 0).f2.length : Nat) : Int) > 0
        · rw [decide_eq_true h2]
          refine hbad _ ?_
          have : ((((rd_T109 F 0).f2.length : Nat) : Int) == 0) = false := by simp only [beq_eq_false_iff_ne]; omega
          rw [this, Bool.and_false, Bool.and_false]
        · rw [decide_eq_false h2]
          have : ((((rd_T109 F 0).f2.length : Nat) : Int) == 0) = true := by simp only [beq_iff_eq]; omega
          rw [this, Bool.and_true]
          exact Ev.step (f := fun k => impl_ImageOk.l0 k C (C.length : Int) 0 F C) (fun k => by rw [hj]; rfl) (impl_im_l0 F C hF hs hC hw C.length 0 (by omega) (by omega))
      · simp only [if_neg h0]
        exact hbad _ (by rw [decide_eq_false h0, Bool.false_and, Bool.and_false, Bool.and_false])
  · have q' : inB (F.length : Int) 1 16 = false := decide_eq_false q
    rw [q', Bool.false_and, decide_eq_false q]
    simp only [Bool.false_eq_true, if_false]
    exact hbad _ rfl
def sumI : List S109 → Int
  | [] => 0
  | x :: l => (x.f3.length : Int) + sumI l
theorem sum_bound (l : List S109) (h : ∀ x ∈ l, short109 x) : 0 ≤ sumI l ∧ sumI l ≤ 1048576 * (l.length : Int) := by
  induction l with
  | nil => simp [sumI]
  | cons x l ih =>
    have h1 := h x (by simp)
    have h2 := ih (fun y hy => h y (by simp [hy]))
    unfold short109 at h1
    simp only [sumI, List.length_cons]
    omega
theorem sum_drop (l : List S109) (i : Nat) (h : i < l.length) : sumI (l.drop i) = ((l.getD i z109).f3.length : Int) + sumI (l.drop (i + 1)) := by
  rw [List.drop_eq_getElem_cons h, List.getD_eq_getElem?_getD, List.getElem?_eq_getElem h]
  rfl
theorem sum_room (l : List S109) (hl : l.length ≤ 1048576) (h : ∀ x ∈ l, short109 x) (i : Nat) : 0 ≤ sumI (l.drop i) ∧ sumI (l.drop i) ≤ 1099511627776 := by
  have h1 := sum_bound (l.drop i) (fun x hx => h x (List.mem_of_mem_drop hx))
  rw [List.length_drop] at h1
  omega
theorem spec_size_l0 (F : List S109) (C : List S103) (hF : F.length ≤ 1048576) (hs : ∀ x ∈ F, short109 x) (hC : C.length ≤ 1048576) (hw : ∀ x ∈ C, wide103 x) (hok : imageB F C = true) : ∀ (d i : Nat) (x : Int), F.length - i = d → i ≤ F.length → 0 ≤ x → x + sumI (F.drop i) ≤ 1099511627776 → Ev (fun k => spec_CodeSize.l0 k x (i : Int) F C) (x + sumI (F.drop i)) := by
  intro d
  induction d with
  | zero =>
    intro i x hd hi h0 h1
    rw [List.drop_of_length_le (by omega)]
    refine Ev.step (f := fun _ => some (x + sumI [])) (fun k => ?_) (Ev.now _)
    simp only [spec_CodeSize.l0]
    rw [if_neg (by omega)]
    simp [sumI]
  | succ d ih =>
    intro i x hd hi h0 h1
    have e := sum_drop F i (by omega)
    have hr2 := sum_room F hF hs (i + 1)
    have hrd : rd_T109 F (i : Int) = F.getD i z109 := by unfold rd_T109; rw [Int.toNat_natCast]
    have hr : ∀ k, spec_CodeSize.l0 (k + 1) x (i : Int) F C = (spec_ImageOk.f k F C).bind fun t => if t = true then spec_CodeSize.l0 k (x + ((F.getD i z109).f3.length : Int)) ((i + 1 : Nat) : Int) F C else some x := by
      intro k
      simp only [spec_CodeSize.l0, hrd]
      rw [if_pos (by omega), if_pos (by omega), w64s (by omega), w64 (x := x + ((F.getD i z109).f3.length : Int)) (by omega) (by omega)]
    have h' := ih (i + 1) (x + ((F.getD i z109).f3.length : Int)) (by omega) (by omega) (by omega) (by omega)
    rw [e, ← Int.add_assoc]
    refine Ev.step hr (Ev.bind (spec_image F C hF hs hC hw) ?_)
    rw [hok]
    simpa using h'
theorem impl_size_l0 (F : List S109) (hF : F.length ≤ 1048576) (hs : ∀ x ∈ F, short109 x) : ∀ (d i : Nat) (x : Int), F.length - i = d → i ≤ F.length → 0 ≤ x → x + sumI (F.drop i) ≤ 1099511627776 → Ev (fun k => impl_CodeSize.l0 k x F (F.length : Int) (i : Int)) (x + sumI (F.drop i)) := by
  intro d
  induction d with
  | zero =>
    intro i x hd hi h0 h1
    rw [List.drop_of_length_le (by omega)]
    refine Ev.step (f := fun _ => some (x + sumI [])) (fun k => ?_) (Ev.now _)
    simp only [impl_CodeSize.l0]
    rw [if_neg (by omega)]
    simp [sumI]
  | succ d ih =>
    intro i x hd hi h0 h1
    have e := sum_drop F i (by omega)
    have hr2 := sum_room F hF hs (i + 1)
    have hrd : rd_T109 F (i : Int) = F.getD i z109 := by unfold rd_T109; rw [Int.toNat_natCast]
    have h' := ih (i + 1) (x + ((F.getD i z109).f3.length : Int)) (by omega) (by omega) (by omega) (by omega)
    rw [e, ← Int.add_assoc]
    refine Ev.step (fun k => ?_) h'
    simp only [impl_CodeSize.l0, hrd]
    rw [if_pos (by omega), if_pos (by omega), if_pos (by omega), w64s (by omega), w64 (x := x + ((F.getD i z109).f3.length : Int)) (by omega) (by omega)]
def sizeI (F : List S109) (C : List S103) : Int := if imageB F C = true then sumI F else 0
theorem spec_size (F : List S109) (C : List S103) (hF : F.length ≤ 1048576) (hs : ∀ x ∈ F, short109 x) (hC : C.length ≤ 1048576) (hw : ∀ x ∈ C, wide103 x) : Ev (fun k => spec_CodeSize.f k F C) (sizeI F C) := by
  have hb := sum_room F hF hs 0
  unfold spec_CodeSize.f sizeI
  by_cases hok : imageB F C = true
  · rw [if_pos hok]
    have h := spec_size_l0 F C hF hs hC hw hok F.length 0 0 (by omega) (by omega) (by omega) (by omega)
    simpa using h
  · rw [if_neg hok]
    rw [Bool.not_eq_true] at hok
    by_cases h1 : 0 < F.length
    · refine Ev.step (f := fun k => (spec_ImageOk.f k F C).bind fun t => if t = true then (if (0 : Int) ≤ 0 then spec_CodeSize.l0 k (wrap64 (0 + ((rd_T109 F 0).f3.length : Int))) (wrap64 (0 + 1)) F C else none) else some 0) (fun k => ?_) (Ev.bind (spec_image F C hF hs hC hw) ?_)
      · simp only [spec_CodeSize.l0]
        rw [if_pos (by omega)]
      · rw [hok]
        simpa using Ev.now (0 : Int)
    · refine Ev.step (f := fun _ => some 0) (fun k => ?_) (Ev.now _)
      simp only [spec_CodeSize.l0]
      rw [if_neg (by omega)]
theorem impl_size (F : List S109) (C : List S103) (hF : F.length ≤ 1048576) (hs : ∀ x ∈ F, short109 x) (hC : C.length ≤ 1048576) (hw : ∀ x ∈ C, wide103 x) : Ev (fun k => impl_CodeSize.f k F C) (sizeI F C) := by
  have hb := sum_room F hF hs 0
  unfold impl_CodeSize.f sizeI
  refine Ev.bind (impl_image F C hF hs hC hw) ?_
  by_cases hok : imageB F C = true
  · rw [if_pos hok, hok]
    simp only [if_true]
    have h := impl_size_l0 F hF hs F.length 0 0 (by omega) (by omega) (by omega) (by omega)
    simpa using h
  · rw [if_neg hok]
    simp only [if_neg hok]
    exact Ev.now 0
/-- What a size tells: too large, or what is left, and then the lists are short. -/
def far126 (x : S126) : Prop := x.f2.length ≤ 9223372036854775807 ∧ x.f3.length ≤ 9223372036854775807 ∧ x.f4.length ≤ 9223372036854775807
theorem left_ok (n : Nat) (a : Int) (h0 : 0 ≤ a) (h1 : a ≤ 1048576) (hn : n ≤ 9223372036854775807) : ∃ z : Int, (if wrap64 (a - (n : Int)) < 0 then some (-1) else some (wrap64 (a - (n : Int)))) = some z ∧ (z = -1 ∨ (0 ≤ z ∧ z ≤ a ∧ n ≤ 1048576)) := by
  rw [w64 (x := a - (n : Int)) (by omega) (by omega)]
  by_cases h : a - (n : Int) < 0
  · exact ⟨-1, by rw [if_pos h], Or.inl rfl⟩
  · exact ⟨a - (n : Int), by rw [if_neg h], Or.inr (by omega)⟩
theorem size_func (x : S126) (a : Int) (h0 : 0 ≤ a) (h1 : a ≤ 1048576) (hx : far126 x) : ∃ z : Int, laws_szFunc.f x.f0 x.f1 x.f2 x.f3 x.f4 a = some z ∧ (z = -1 ∨ (0 ≤ z ∧ z ≤ a ∧ short126 x)) := by
  unfold laws_szFunc.f laws_szCapS.f laws_szInsS.f laws_szHandlerS.f
  obtain ⟨z1, e1, c1⟩ := left_ok x.f2.length a h0 h1 hx.1
  rw [e1]
  simp only [Option.bind_some]
  rcases c1 with c1 | c1
  · exact ⟨-1, by rw [if_pos (by omega)], Or.inl rfl⟩
  · rw [if_neg (by omega)]
    obtain ⟨z2, e2, c2⟩ := left_ok x.f3.length z1 c1.1 (by omega) hx.2.1
    rw [e2]
    simp only [Option.bind_some]
    rcases c2 with c2 | c2
    · exact ⟨-1, by rw [if_pos (by omega)], Or.inl rfl⟩
    · rw [if_neg (by omega)]
      obtain ⟨z3, e3, c3⟩ := left_ok x.f4.length z2 c2.1 (by omega) hx.2.2
      rw [e3]
      simp only [Option.bind_some]
      rcases c3 with c3 | c3
      · exact ⟨-1, by rw [if_pos (by omega)], Or.inl rfl⟩
      · exact ⟨z3, by rw [if_neg (by omega)], Or.inr ⟨c3.1, by omega, c1.2.2, c2.2.2, c3.2.2⟩⟩
theorem size_funcs_l0 (l : List S126) (hl : l.length ≤ 1048576) (hf : ∀ x ∈ l, far126 x) : ∀ (d i : Nat) (a : Int), l.length - i = d → i ≤ l.length → 0 ≤ a → a ≤ 1048576 → ∃ z : Int, Ev (fun k => laws_szFuncS.l0 k l a (i : Int)) z ∧ (z = -1 ∨ (0 ≤ z ∧ z ≤ a ∧ ∀ x ∈ l.drop i, short126 x)) := by
  intro d
  induction d with
  | zero =>
    intro i a hd hi h0 h1
    refine ⟨a, Ev.step (f := fun _ => some a) (fun k => ?_) (Ev.now _), Or.inr ⟨h0, by omega, ?_⟩⟩
    · simp only [laws_szFuncS.l0]
      rw [if_neg (by omega)]
    · rw [List.drop_of_length_le (by omega)]; simp
  | succ d ih =>
    intro i a hd hi h0 h1
    have hx := getD_all' far126 l z126 hf i (by omega)
    obtain ⟨z, e, c⟩ := size_func _ a h0 h1 hx
    have hr : ∀ k, laws_szFuncS.l0 (k + 1) l a (i : Int) = if z < 0 then some (-1) else laws_szFuncS.l0 k l z ((i + 1 : Nat) : Int) := by
      intro k
      simp only [laws_szFuncS.l0, rd_T126, Int.toNat_natCast, e, Option.bind_some]
      rw [if_pos (by omega), if_pos (by omega), w64s (by omega)]
    rcases c with c | c
    · exact ⟨-1, Ev.step (f := fun _ => some (-1)) (fun k => by rw [hr, if_pos (by omega)]) (Ev.now _), Or.inl rfl⟩
    · obtain ⟨z', e', c'⟩ := ih (i + 1) z (by omega) (by omega) c.1 (by omega)
      refine ⟨z', Ev.step (fun k => by rw [hr, if_neg (by omega)]) e', ?_⟩
      rcases c' with c' | c'
      · exact Or.inl c'
      · refine Or.inr ⟨c'.1, by omega, ?_⟩
        rw [List.drop_eq_getElem_cons (show i < l.length by omega)]
        have hg : l.getD i z126 = l[i]'(by omega) := by rw [List.getD_eq_getElem?_getD, List.getElem?_eq_getElem (by omega)]; rfl
        intro x hxm
        rcases List.mem_cons.1 hxm with h | h
        · rw [h, ← hg]; exact c.2.2
        · exact c'.2.2 x h
theorem size_consts_l0 (l : List S128) (hl : l.length ≤ 1048576) (hf : ∀ x ∈ l, x.f2.size ≤ 9223372036854775807) : ∀ (d i : Nat) (a : Int), l.length - i = d → i ≤ l.length → 0 ≤ a → a ≤ 1048576 → ∃ z : Int, Ev (fun k => laws_szConstS.l0 k l a (i : Int)) z := by
  intro d
  induction d with
  | zero =>
    intro i a hd hi h0 h1
    refine ⟨a, Ev.step (f := fun _ => some a) (fun k => ?_) (Ev.now _)⟩
    simp only [laws_szConstS.l0]
    rw [if_neg (by omega)]
  | succ d ih =>
    intro i a hd hi h0 h1
    have hx := getD_all' (fun x : S128 => x.f2.size ≤ 9223372036854775807) l z128 hf i (by omega)
    have hrd : rd_T128 l (i : Int) = l.getD i z128 := by unfold rd_T128; rw [Int.toNat_natCast]
    have hx2 : (rd_T128 l (i : Int)).f2.size ≤ 9223372036854775807 := by rw [hrd]; exact hx
    obtain ⟨z, e, c⟩ := left_ok (rd_T128 l (i : Int)).f2.size a h0 h1 hx2
    have hr : ∀ k, laws_szConstS.l0 (k + 1) l a (i : Int) = if z < 0 then some (-1) else laws_szConstS.l0 k l z ((i + 1 : Nat) : Int) := by
      intro k
      simp only [laws_szConstS.l0, laws_szConst.f, e, Option.bind_some]
      rw [if_pos (by omega), if_pos (by omega), w64s (by omega)]
    rcases c with c | c
    · exact ⟨-1, Ev.step (f := fun _ => some (-1)) (fun k => by rw [hr, if_pos (by omega)]) (Ev.now _)⟩
    · obtain ⟨z', e'⟩ := ih (i + 1) z (by omega) (by omega) c.1 (by omega)
      exact ⟨z', Ev.step (fun k => by rw [hr, if_neg (by omega)]) e'⟩
/-- The image's size: too large, or its lists are short. -/
theorem size_image (F : List S126) (C : List S128) (hF : F.length ≤ 9223372036854775807) (hC : C.length ≤ 9223372036854775807) (hf : ∀ x ∈ F, far126 x) (hc : ∀ x ∈ C, x.f2.size ≤ 9223372036854775807) :
    ∃ z : Int, Ev (fun k => laws_szImage.f k F C 1048576) z ∧ (z < 0 ∨ (F.length ≤ 1048576 ∧ C.length ≤ 1048576 ∧ ∀ x ∈ F, short126 x)) := by
  unfold laws_szImage.f laws_szFuncS.f laws_szConstS.f
  rw [w64 (x := 1048576 - (F.length : Int)) (by omega) (by omega)]
  by_cases h1 : 1048576 - (F.length : Int) < 0
  · simp only [if_pos h1, Option.bind_some, if_pos (show (-1 : Int) < 0 by omega)]
    exact ⟨-1, Ev.now _, Or.inl (by omega)⟩
  · simp only [if_neg h1]
    obtain ⟨z, e, c⟩ := size_funcs_l0 F (by omega) hf F.length 0 (1048576 - (F.length : Int)) (by omega) (by omega) (by omega) (by omega)
    rcases c with c | c
    · subst c
      refine ⟨-1, Ev.bind e ?_, Or.inl (by omega)⟩
      simp only [if_pos (show (-1 : Int) < 0 by omega)]
      exact Ev.now _
    · have hz : ¬ z < 0 := by omega
      have hsF : ∀ x ∈ F, short126 x := by simpa using c.2.2
      by_cases h2 : z - (C.length : Int) < 0
      · refine ⟨-1, Ev.bind e ?_, Or.inl (by omega)⟩
        simp only [if_neg hz]
        rw [w64 (x := z - (C.length : Int)) (by omega) (by omega)]
        simp only [if_pos h2, Option.bind_some, if_pos (show (-1 : Int) < 0 by omega)]
        exact Ev.now _
      · obtain ⟨z2, e2⟩ := size_consts_l0 C (by omega) hc C.length 0 (z - (C.length : Int)) (by omega) (by omega) (by omega) (by omega)
        refine ⟨if z2 < 0 then -1 else z2, Ev.bind e ?_, Or.inr ⟨by omega, by omega, hsF⟩⟩
        simp only [if_neg hz]
        rw [w64 (x := z - (C.length : Int)) (by omega) (by omega)]
        simp only [if_neg h2]
        refine Ev.bind e2 ?_
        by_cases h3 : z2 < 0
        · simp only [if_pos h3]; exact Ev.now _
        · simp only [if_neg h3]; exact Ev.now _
theorem short_conv (F : List S126) (h : ∀ x ∈ F, short126 x) : ∀ y ∈ F.map fnC, short109 y := by
  intro y hy
  obtain ⟨x, hx, rfl⟩ := List.mem_map.1 hy
  have := h x hx
  unfold short126 at this
  unfold short109 fnC
  simpa using this
theorem wide_conv (C : List S128) (h : ∀ x ∈ C, (Lit.int .u64 x.f1).wf = true) : ∀ y ∈ C.map cstC, wide103 y := by
  intro y hy
  obtain ⟨x, hx, rfl⟩ := List.mem_map.1 hy
  exact wfu64 (h x hx)
theorem FnExactCodeSize (F : List S126) (C : List S128) (hF : F.length ≤ 9223372036854775807) (hC : C.length ≤ 9223372036854775807) (hf : ∀ x ∈ F, far126 x) (hc : ∀ x ∈ C, x.f2.size ≤ 9223372036854775807) (hw : ∀ x ∈ C, (Lit.int .u64 x.f1).wf = true) :
    ∃ k, laws_FnExactCodeSize.f k F C = some true := by
  refine Ev.rounds ?_
  unfold laws_FnExactCodeSize.f
  obtain ⟨z, e, c⟩ := size_image F C hF hC hf hc
  refine Ev.bind e ?_
  by_cases h : z < 0
  · simp only [if_pos h]
    exact Ev.now true
  · simp only [if_neg h]
    rcases c with c | ⟨c1, c2, c3⟩
    · exact absurd c h
    · have ht := to_image F C c1 c3 c2
      have l1 : (F.map fnC).length ≤ 1048576 := by rw [List.length_map]; exact c1
      have l2 : (C.map cstC).length ≤ 1048576 := by rw [List.length_map]; exact c2
      have hs := short_conv F c3
      refine Ev.bind ht (Ev.bind (spec_size _ _ l1 hs l2 (wide_conv C hw)) (Ev.bind ht (Ev.bind (impl_size _ _ l1 hs l2 (wide_conv C hw)) ?_)))
      simp only [if_true]
      refine Ev.bind ht (Ev.bind (eq_image _ _ l1 hs l2) ?_)
      simp only [if_true]
      exact Ev.now true
end Go.Proofs.Ythbbdnicpbbnpaa.Pure
