/- At all trees of at most 2^20 cells the program's SameTree and the reference's tell the same, and what they were handed is as it was. Conditions: the lists' and texts' lengths are a slice's and a text's. -/
import Derived.Test.YtfoekmfpcahmiaaMFnExactSameTreex5
import Derived.Test.YtfoekmfpcahmiaaCB
namespace Go.Proofs.Ytfoekmfpcahmiaa.Pure
open Go.RowKit Go.Proofs.Ytfoekmfpcahmiaa.MFnExactSameTree Go.Proofs.YtfoekmfpcahmiaaW.PrintWords Go.Proofs.YtfoekmfpcahmiaaW.PrintLast Go.Proofs.Ytfoekmfpcahmiaa.CB
theorem ev_const {α : Type} {x : Option α} {r : α} (h : x = some r) : Ev (fun _ => x) r := by rw [h]; exact Ev.now r
theorem ev_if {α : Type} {c : Prop} [Decidable c] {f g : Nat → Option α} {r : α} (h : c) (k : Ev f r) : Ev (fun n => if c then f n else g n) r := Ev.congr (fun _ => if_pos h) k
theorem ev_else {α : Type} {c : Prop} [Decidable c] {f g : Nat → Option α} {r : α} (h : ¬ c) (k : Ev g r) : Ev (fun n => if c then f n else g n) r := Ev.congr (fun _ => if_neg h) k
theorem set_map {α β : Type} (f : α → β) (l : List α) (za : α) (z : β) (i : Nat) (h : i < l.length) : ((l.take i).map f ++ List.replicate (l.length - i) z).set i (f (l.getD i za)) = (l.take (i + 1)).map f ++ List.replicate (l.length - (i + 1)) z := by
  rw [List.set_append_right _ _ (by simp; omega), show l.length - i = (l.length - (i + 1)) + 1 by omega, List.replicate_succ, List.take_succ_eq_append_getElem h]
  have e : i - ((l.take i).map f).length = 0 := by simp; omega
  rw [e, List.set_cons_zero, List.getD_eq_getElem?_getD, List.getElem?_eq_getElem h]
  simp only [List.map_append, List.map_cons, List.map_nil, List.append_assoc, List.cons_append, List.nil_append, Option.getD_some]
theorem getD_all' {α : Type} (p : α → Prop) (l : List α) (z : α) (h : ∀ x ∈ l, p x) (i : Nat) (hi : i < l.length) : p (l.getD i z) := by
  rw [List.getD_eq_getElem?_getD, List.getElem?_eq_getElem hi]; exact h _ (List.getElem_mem hi)
theorem drop_eq {α : Type} (a b : List α) (z : α) (i : Nat) (ha : i < a.length) (hb : i < b.length) : a.drop i = b.drop i ↔ (a.getD i z = b.getD i z ∧ a.drop (i + 1) = b.drop (i + 1)) := by
  rw [List.drop_eq_getElem_cons ha, List.drop_eq_getElem_cons hb, List.getD_eq_getElem?_getD, List.getElem?_eq_getElem ha, List.getD_eq_getElem?_getD, List.getElem?_eq_getElem hb, List.cons.injEq, Option.getD_some, Option.getD_some]
theorem text_eq (a b : ByteArray) : a.toList = b.toList ↔ a = b := by
  rw [ByteArray.toList_eq, ByteArray.toList_eq]
  constructor
  · intro h; cases a; cases b; congr; exact Array.toList_inj.mp h
  · intro h; rw [h]
theorem left_ok (n : Nat) (a : Int) (h0 : 0 ≤ a) (h1 : a ≤ 1048576) (hn : n ≤ 9223372036854775807) : ∃ z : Int, (if wrap64 (a - (n : Int)) < 0 then some (-1) else some (wrap64 (a - (n : Int)))) = some z ∧ (z = -1 ∨ (0 ≤ z ∧ z ≤ a ∧ n ≤ 1048576)) := by
  rw [w64 (x := a - (n : Int)) (by omega) (by omega)]
  by_cases h : a - (n : Int) < 0
  · exact ⟨-1, by rw [if_pos h], Or.inl rfl⟩
  · exact ⟨a - (n : Int), by rw [if_neg h], Or.inr (by omega)⟩
/-- Lengths are a slice's, sizes a text's. -/
def far (x : S33) : Prop := x.f4.length ≤ 9223372036854775807 ∧ x.f5.length ≤ 9223372036854775807 ∧ ∀ t ∈ x.f5, t.size ≤ 9223372036854775807
def short0 (x : S33) : Prop := x.f4.length ≤ 1048576 ∧ x.f5.length ≤ 1048576
def short1 (x : S34) : Prop := x.f4.length ≤ 1048576 ∧ x.f5.length ≤ 1048576
theorem size_strs_l0 (l : List ByteArray) (hl : l.length ≤ 1048576) (hs : ∀ t ∈ l, t.size ≤ 9223372036854775807) : ∀ (d i : Nat) (a : Int), l.length - i = d → i ≤ l.length → 0 ≤ a → a ≤ 1048576 → ∃ z : Int, Ev (fun k => laws_szStringS.l0 k l a (i : Int)) z ∧ (z = -1 ∨ (0 ≤ z ∧ z ≤ a)) := by
  intro d
  induction d with
  | zero =>
    intro i a hd hi h0 h1
    refine ⟨a, Ev.step (f := fun _ => some a) (fun k => ?_) (Ev.now _), Or.inr ⟨h0, Int.le_refl _⟩⟩
    simp only [laws_szStringS.l0]
    rw [if_neg (by omega)]
  | succ d ih =>
    intro i a hd hi h0 h1
    have hx : (rdOf ByteArray.empty l (i : Int)).size ≤ 9223372036854775807 := by
      unfold rdOf; rw [Int.toNat_natCast]; exact getD_all' (fun t => t.size ≤ 9223372036854775807) l _ hs i (by omega)
    have hw : wrap64 (a - ((rdOf ByteArray.empty l (i : Int)).size : Int)) = a - ((rdOf ByteArray.empty l (i : Int)).size : Int) := w64 (by omega) (by omega)
    by_cases h : a - ((rdOf ByteArray.empty l (i : Int)).size : Int) < 0
    · refine ⟨-1, Ev.step (f := fun _ => some (-1)) (fun k => ?_) (Ev.now _), Or.inl rfl⟩
      simp only [laws_szStringS.l0]
      rw [if_pos (by omega), if_pos (by omega), hw, if_pos h]
    · obtain ⟨z, e, c⟩ := ih (i + 1) (a - ((rdOf ByteArray.empty l (i : Int)).size : Int)) (by omega) (by omega) (by omega) (by omega)
      refine ⟨z, Ev.step (fun k => ?_) e, ?_⟩
      · simp only [laws_szStringS.l0]
        rw [if_pos (by omega), if_pos (by omega), hw, if_neg h, w64s (by omega)]
      · rcases c with c | c
        · exact Or.inl c
        · exact Or.inr ⟨c.1, by omega⟩
theorem size_node (x : S33) (a : Int) (h0 : 0 ≤ a) (h1 : a ≤ 1048576) (hx : far x) : ∃ z : Int, Ev (fun k => laws_szNode.f k x.f0 x.f1 x.f2 x.f3 x.f4 x.f5 x.f6 x.f7 a) z ∧ (z = -1 ∨ (0 ≤ z ∧ z ≤ a ∧ short0 x)) := by
  unfold laws_szNode.f laws_szIntS.f laws_szStringS.f
  obtain ⟨z1, e1, c1⟩ := left_ok x.f4.length a h0 h1 hx.1
  rw [e1]
  simp only [Option.bind_some]
  rcases c1 with c1 | c1
  · exact ⟨-1, ev_if (by omega) (Ev.now _), Or.inl rfl⟩
  · have hw : wrap64 (z1 - (x.f5.length : Int)) = z1 - (x.f5.length : Int) := w64 (by have := hx.2.1; omega) (by omega)
    simp only [hw]
    by_cases h : z1 - (x.f5.length : Int) < 0
    · refine ⟨-1, ev_else (by omega) ?_, Or.inl rfl⟩
      simp only [if_pos h, Option.bind_some]
      exact Ev.now _
    · have h5 : x.f5.length ≤ 1048576 := by omega
      obtain ⟨z, e, c⟩ := size_strs_l0 x.f5 h5 hx.2.2 x.f5.length 0 (z1 - (x.f5.length : Int)) (by omega) (by omega) (by omega) (by omega)
      simp only [if_neg h]
      rcases c with c | c
      · exact ⟨-1, ev_else (by omega) (Ev.bind e (ev_if (by omega) (Ev.now _))), Or.inl rfl⟩
      · exact ⟨z, ev_else (by omega) (Ev.bind e (ev_else (by omega) (Ev.now _))), Or.inr ⟨c.1, by omega, c1.2.2, h5⟩⟩
theorem size_nodes_l0 (l : List S33) (hl : l.length ≤ 1048576) (hf : ∀ x ∈ l, far x) : ∀ (d i : Nat) (a : Int), l.length - i = d → i ≤ l.length → 0 ≤ a → a ≤ 1048576 → ∃ z : Int, Ev (fun k => laws_szNodeS.l0 k l a (i : Int)) z ∧ (z = -1 ∨ (0 ≤ z ∧ z ≤ a ∧ ∀ x ∈ l.drop i, short0 x)) := by
  intro d
  induction d with
  | zero =>
    intro i a hd hi h0 h1
    refine ⟨a, Ev.step (f := fun _ => some a) (fun k => ?_) (Ev.now _), Or.inr ⟨h0, by omega, ?_⟩⟩
    · simp only [laws_szNodeS.l0]
      rw [if_neg (by omega)]
    · rw [List.drop_of_length_le (by omega)]; simp
  | succ d ih =>
    intro i a hd hi h0 h1
    have hx := getD_all' far l z33 hf i (by omega)
    obtain ⟨z, e, c⟩ := size_node _ a h0 h1 hx
    have hr : ∀ k, laws_szNodeS.l0 (k + 1) l a (i : Int) = (laws_szNode.f k (l.getD i z33).f0 (l.getD i z33).f1 (l.getD i z33).f2 (l.getD i z33).f3 (l.getD i z33).f4 (l.getD i z33).f5 (l.getD i z33).f6 (l.getD i z33).f7 a).bind fun t106 => (if t106 < 0 then (some (-1)) else (laws_szNodeS.l0 k l t106 ((i + 1 : Nat) : Int))) := by
      intro k
      simp only [laws_szNodeS.l0, rd_T33, Int.toNat_natCast]
      rw [if_pos (by omega), if_pos (by omega), w64s (by omega)]
    rcases c with c | c
    · exact ⟨-1, Ev.step hr (Ev.bind e (ev_if (by omega) (Ev.now _))), Or.inl rfl⟩
    · obtain ⟨y, e2, c2⟩ := ih (i + 1) z (by omega) (by omega) c.1 (by omega)
      refine ⟨y, Ev.step hr (Ev.bind e (ev_else (by omega) e2)), ?_⟩
      rcases c2 with c2 | c2
      · exact Or.inl c2
      · refine Or.inr ⟨c2.1, by omega, ?_⟩
        intro x hx
        rw [List.drop_eq_getElem_cons (show i < l.length by omega)] at hx
        rcases List.mem_cons.1 hx with rfl | hx
        · have := c.2.2
          rw [List.getD_eq_getElem?_getD, List.getElem?_eq_getElem (show i < l.length by omega)] at this
          exact this
        · exact c2.2.2 x hx
theorem size_nodes (l : List S33) (a : Int) (h0 : 0 ≤ a) (h1 : a ≤ 1048576) (hl : l.length ≤ 9223372036854775807) (hf : ∀ x ∈ l, far x) : ∃ z : Int, Ev (fun k => laws_szNodeS.f k l a) z ∧ (z = -1 ∨ (0 ≤ z ∧ z ≤ a ∧ l.length ≤ 1048576 ∧ ∀ x ∈ l, short0 x)) := by
  unfold laws_szNodeS.f
  have hw : wrap64 (a - (l.length : Int)) = a - (l.length : Int) := w64 (by omega) (by omega)
  rw [hw]
  by_cases h : a - (l.length : Int) < 0
  · exact ⟨-1, ev_if h (Ev.now _), Or.inl rfl⟩
  · obtain ⟨z, e, c⟩ := size_nodes_l0 l (by omega) hf l.length 0 (a - (l.length : Int)) (by omega) (by omega) (by omega) (by omega)
    refine ⟨z, ev_else h e, ?_⟩
    rcases c with c | c
    · exact Or.inl c
    · exact Or.inr ⟨c.1, by omega, by omega, by simpa using c.2.2⟩
theorem to_ints_l0 (l : List Int) (hl : l.length ≤ 1048576) : ∀ (d i : Nat), l.length - i = d → i ≤ l.length → Ev (fun k => laws_toIntS.l0 k l ((l.take i).map id ++ List.replicate (l.length - i) 0) (i : Int)) l := by
  intro d
  induction d with
  | zero =>
    intro i hd hi
    obtain rfl : i = l.length := by omega
    refine Ev.step (f := fun _ => some l) (fun k => ?_) (Ev.now _)
    simp only [laws_toIntS.l0]
    rw [if_neg (by omega), List.take_of_length_le (by omega), Nat.sub_self]
    simp
  | succ d ih =>
    intro i hd hi
    refine Ev.step (fun k => ?_) (ih (i + 1) (by omega) (by omega))
    simp only [laws_toIntS.l0]
    rw [if_pos (by omega), if_pos (by omega), if_pos (by simp; omega), w64s (by omega), Int.toNat_natCast, ← set_map id l 0 0 i (by omega)]
    rfl
theorem to_ints (l : List Int) (hl : l.length ≤ 1048576) : Ev (fun k => laws_toIntS.f k l) l := by
  have h := to_ints_l0 l hl l.length 0 (by omega) (by omega)
  unfold laws_toIntS.f
  simp only [if_pos (show (0 : Int) ≤ (l.length : Int) by omega), Int.toNat_natCast, if_pos (show l.length ≤ 35184372088832 by omega)]
  simpa using h
theorem to_strs_l0 (l : List ByteArray) (hl : l.length ≤ 1048576) : ∀ (d i : Nat), l.length - i = d → i ≤ l.length → Ev (fun k => laws_toStringS.l0 k l ((l.take i).map id ++ List.replicate (l.length - i) (⟨#[]⟩ : ByteArray)) (i : Int)) l := by
  intro d
  induction d with
  | zero =>
    intro i hd hi
    obtain rfl : i = l.length := by omega
    refine Ev.step (f := fun _ => some l) (fun k => ?_) (Ev.now _)
    simp only [laws_toStringS.l0]
    rw [if_neg (by omega), List.take_of_length_le (by omega), Nat.sub_self]
    simp
  | succ d ih =>
    intro i hd hi
    refine Ev.step (fun k => ?_) (ih (i + 1) (by omega) (by omega))
    simp only [laws_toStringS.l0]
    rw [if_pos (by omega), if_pos (by omega), if_pos (by simp; omega), w64s (by omega), Int.toNat_natCast, ← set_map id l ByteArray.empty (⟨#[]⟩ : ByteArray) i (by omega)]
    rfl
theorem to_strs (l : List ByteArray) (hl : l.length ≤ 1048576) : Ev (fun k => laws_toStringS.f k l) l := by
  have h := to_strs_l0 l hl l.length 0 (by omega) (by omega)
  unfold laws_toStringS.f
  simp only [if_pos (show (0 : Int) ≤ (l.length : Int) by omega), Int.toNat_natCast, if_pos (show l.length ≤ 17592186044416 by omega)]
  simpa using h
def nodeC (x : S33) : S34 := ⟨x.f0, x.f1, x.f2, x.f3, x.f4, x.f5, x.f6, x.f7⟩
theorem to_node (x : S33) (h : short0 x) : Ev (fun k => laws_toNode.f k x.f0 x.f1 x.f2 x.f3 x.f4 x.f5 x.f6 x.f7) (x.f0, x.f1, x.f2, x.f3, x.f4, x.f5, x.f6, x.f7) := by
  unfold laws_toNode.f
  exact Ev.bind (to_ints _ h.1) (Ev.bind (to_strs _ h.2) (Ev.now _))
theorem to_nodes_l0 (l : List S33) (hl : l.length ≤ 1048576) (hs : ∀ x ∈ l, short0 x) : ∀ (d i : Nat), l.length - i = d → i ≤ l.length → Ev (fun k => laws_toNodeS.l0 k l ((l.take i).map nodeC ++ List.replicate (l.length - i) z34) (i : Int)) (l.map nodeC) := by
  intro d
  induction d with
  | zero =>
    intro i hd hi
    obtain rfl : i = l.length := by omega
    refine Ev.step (f := fun _ => some (l.map nodeC)) (fun k => ?_) (Ev.now _)
    simp only [laws_toNodeS.l0]
    rw [if_neg (by omega), List.take_of_length_le (by omega), Nat.sub_self]
    simp
  | succ d ih =>
    intro i hd hi
    have hx := to_node _ (getD_all' short0 l z33 hs i (by omega))
    have hr : ∀ k, laws_toNodeS.l0 (k + 1) l ((l.take i).map nodeC ++ List.replicate (l.length - i) z34) (i : Int) = (laws_toNode.f k (l.getD i z33).f0 (l.getD i z33).f1 (l.getD i z33).f2 (l.getD i z33).f3 (l.getD i z33).f4 (l.getD i z33).f5 (l.getD i z33).f6 (l.getD i z33).f7).bind fun bt138 => laws_toNodeS.l0 k l (((l.take i).map nodeC ++ List.replicate (l.length - i) z34).set i (⟨bt138.1, bt138.2.1, bt138.2.2.1, bt138.2.2.2.1, bt138.2.2.2.2.1, bt138.2.2.2.2.2.1, bt138.2.2.2.2.2.2.1, bt138.2.2.2.2.2.2.2⟩ : S34)) ((i + 1 : Nat) : Int) := by
      intro k
      simp only [laws_toNodeS.l0, rd_T33, Int.toNat_natCast]
      rw [if_pos (by omega), if_pos (by omega), w64s (by omega)]
      refine congrArg _ (funext fun bt => ?_)
      rw [if_pos (by simp; omega)]
    refine Ev.step hr (Ev.bind hx ?_)
    have := ih (i + 1) (by omega) (by omega)
    rw [← set_map nodeC l z33 z34 i (by omega)] at this
    exact this
theorem to_nodes (l : List S33) (hl : l.length ≤ 1048576) (hs : ∀ x ∈ l, short0 x) : Ev (fun k => laws_toNodeS.f k l) (l.map nodeC) := by
  have h := to_nodes_l0 l hl hs l.length 0 (by omega) (by omega)
  unfold laws_toNodeS.f
  simp only [if_pos (show (0 : Int) ≤ (l.length : Int) by omega), Int.toNat_natCast, if_pos (show l.length ≤ 2932031007402 by omega)]
  simpa using h
theorem eqi_l0 (a b : List Int) (h : a.length = b.length) (hl : a.length ≤ 1048576) : ∀ (d i : Nat), a.length - i = d → i ≤ a.length → Ev (fun k => slices_Equal_int_int.l0 k a b (a.length : Int) (i : Int)) (decide (a.drop i = b.drop i)) := by
  intro d
  induction d with
  | zero =>
    intro i hd hi
    rw [List.drop_of_length_le (by omega), List.drop_of_length_le (by omega), decide_eq_true rfl]
    refine Ev.step (f := fun _ => some true) (fun k => ?_) (Ev.now _)
    simp only [slices_Equal_int_int.l0]
    rw [if_neg (by omega)]
  | succ d ih =>
    intro i hd hi
    have hd := drop_eq a b 0 i (by omega) (by omega)
    have hr : ∀ k, slices_Equal_int_int.l0 (k + 1) a b (a.length : Int) (i : Int) = if a.getD i 0 = b.getD i 0 then slices_Equal_int_int.l0 k a b (a.length : Int) ((i + 1 : Nat) : Int) else some false := by
      intro k
      simp only [slices_Equal_int_int.l0, rd, Int.toNat_natCast]
      rw [if_pos (by omega), if_pos (by omega), if_pos (by omega), if_pos (by omega), w64s (by omega)]
      rfl
    refine Ev.step hr ?_
    by_cases he : a.getD i 0 = b.getD i 0
    · refine ev_if he ?_
      rw [show decide (a.drop i = b.drop i) = decide (a.drop (i + 1) = b.drop (i + 1)) from decide_eq_decide.2 (by rw [hd]; exact and_iff_right he)]
      exact ih (i + 1) (by omega) (by omega)
    · refine ev_else he ?_
      rw [decide_eq_false (fun hh => he (hd.1 hh).1)]
      exact Ev.now _
theorem eqi (a b : List Int) (hl : a.length ≤ 1048576) : Ev (fun k => slices_Equal_int_int.f k a b) (decide (a = b)) := by
  unfold slices_Equal_int_int.f
  by_cases h : a.length = b.length
  · refine ev_if (by omega) ?_
    have := eqi_l0 a b h hl a.length 0 (by omega) (by omega)
    simpa using this
  · refine ev_else (by omega) ?_
    rw [decide_eq_false (fun hh => h (by rw [hh]))]
    exact Ev.now _
theorem eqs_l0 (a b : List ByteArray) (h : a.length = b.length) (hl : a.length ≤ 1048576) : ∀ (d i : Nat), a.length - i = d → i ≤ a.length → Ev (fun k => slices_Equal_string_string.l0 k a b (a.length : Int) (i : Int)) (decide (a.drop i = b.drop i)) := by
  intro d
  induction d with
  | zero =>
    intro i hd hi
    rw [List.drop_of_length_le (by omega), List.drop_of_length_le (by omega), decide_eq_true rfl]
    refine Ev.step (f := fun _ => some true) (fun k => ?_) (Ev.now _)
    simp only [slices_Equal_string_string.l0]
    rw [if_neg (by omega)]
  | succ d ih =>
    intro i hd hi
    have hd := drop_eq a b ByteArray.empty i (by omega) (by omega)
    have hr : ∀ k, slices_Equal_string_string.l0 (k + 1) a b (a.length : Int) (i : Int) = if (a.getD i ByteArray.empty).toList = (b.getD i ByteArray.empty).toList then slices_Equal_string_string.l0 k a b (a.length : Int) ((i + 1 : Nat) : Int) else some false := by
      intro k
      simp only [slices_Equal_string_string.l0, rdOf, Int.toNat_natCast]
      rw [if_pos (by omega), if_pos (by omega), if_pos (by omega), if_pos (by omega), w64s (by omega)]
      rfl
    refine Ev.step hr ?_
    by_cases he : (a.getD i ByteArray.empty).toList = (b.getD i ByteArray.empty).toList
    · refine ev_if he ?_
      rw [show decide (a.drop i = b.drop i) = decide (a.drop (i + 1) = b.drop (i + 1)) from decide_eq_decide.2 (by rw [hd]; exact and_iff_right ((text_eq _ _).1 he))]
      exact ih (i + 1) (by omega) (by omega)
    · refine ev_else he ?_
      rw [decide_eq_false (fun hh => he ((text_eq _ _).2 (hd.1 hh).1))]
      exact Ev.now _
theorem eqs (a b : List ByteArray) (hl : a.length ≤ 1048576) : Ev (fun k => slices_Equal_string_string.f k a b) (decide (a = b)) := by
  unfold slices_Equal_string_string.f
  by_cases h : a.length = b.length
  · refine ev_if (by omega) ?_
    have := eqs_l0 a b h hl a.length 0 (by omega) (by omega)
    simpa using this
  · refine ev_else (by omega) ?_
    rw [decide_eq_false (fun hh => h (by rw [hh]))]
    exact Ev.now _
/-- Two cells are the same (but for their eighth field). -/
def like (x y : S34) : Prop := x.f0 = y.f0 ∧ x.f1 = y.f1 ∧ x.f2 = y.f2 ∧ x.f3 = y.f3 ∧ x.f4 = y.f4 ∧ x.f5 = y.f5 ∧ x.f6 = y.f6
instance (x y : S34) : Decidable (like x y) := by unfold like; infer_instance
theorem impl_like (x y : S34) (hx : short1 x) : Ev (fun k => impl_SameTree_1.f k x.f0 x.f1 x.f2 x.f3 x.f4 x.f5 x.f6 x.f7 y.f0 y.f1 y.f2 y.f3 y.f4 y.f5 y.f6 y.f7) (decide (like x y)) := by
  unfold impl_SameTree_1.f
  by_cases h0 : x.f0 = y.f0
  · refine ev_if h0 ?_
    by_cases h1 : x.f1 = y.f1
    · refine ev_if h1 ?_
      by_cases h2 : x.f2 = y.f2
      · refine ev_if h2 ?_
        by_cases h3 : x.f3 = y.f3
        · refine ev_if h3 (Ev.bind (eqi x.f4 y.f4 hx.1) ?_)
          by_cases h4 : x.f4 = y.f4
          · refine ev_if (decide_eq_true h4) (Ev.bind (eqs x.f5 y.f5 hx.2) ?_)
            by_cases h5 : x.f5 = y.f5
            · refine ev_if (decide_eq_true h5) ?_
              rw [show decide (like x y) = (x.f6 == y.f6) by rw [Bool.eq_iff_iff, decide_eq_true_eq, beq_iff_eq]; exact ⟨fun h => h.2.2.2.2.2.2, fun h => ⟨h0, h1, h2, h3, h4, h5, h⟩⟩]
              exact Ev.now _
            · rw [show decide (like x y) = false from decide_eq_false (fun h => h5 h.2.2.2.2.2.1)]
              exact ev_else (by rw [decide_eq_false h5]; decide) (Ev.now _)
          · rw [show decide (like x y) = false from decide_eq_false (fun h => h4 h.2.2.2.2.1)]
            exact ev_else (by rw [decide_eq_false h4]; decide) (Ev.now _)
        · rw [show decide (like x y) = false from decide_eq_false (fun h => h3 h.2.2.2.1)]
          exact ev_else h3 (Ev.now _)
      · rw [show decide (like x y) = false from decide_eq_false (fun h => h2 h.2.2.1)]
        exact ev_else h2 (Ev.now _)
    · rw [show decide (like x y) = false from decide_eq_false (fun h => h1 h.2.1)]
      exact ev_else h1 (Ev.now _)
  · rw [show decide (like x y) = false from decide_eq_false (fun h => h0 h.1)]
    exact ev_else h0 (Ev.now _)
/-- Two trees are the same from cell i on. -/
def likeL : Nat → Nat → List S34 → List S34 → Bool
  | 0, _, _, _ => true
  | d + 1, i, a, b => decide (like (a.getD i z34) (b.getD i z34)) && likeL d (i + 1) a b
theorem impl_nodes_l0 (a b : List S34) (h : a.length = b.length) (hl : a.length ≤ 1048576) (hs : ∀ x ∈ a, short1 x) : ∀ (d i : Nat), a.length - i = d → i ≤ a.length → Ev (fun k => impl_Node.l0 k b a (a.length : Int) (i : Int)) (likeL d i a b) := by
  intro d
  induction d with
  | zero =>
    intro i hd hi
    refine Ev.step (f := fun _ => some true) (fun k => ?_) (Ev.now _)
    simp only [impl_Node.l0]
    rw [if_neg (by omega)]
  | succ d ih =>
    intro i hd hi
    have hx := impl_like (a.getD i z34) (b.getD i z34) (getD_all' short1 a z34 hs i (by omega))
    have hr : ∀ k, impl_Node.l0 (k + 1) b a (a.length : Int) (i : Int) = (impl_SameTree_1.f k (a.getD i z34).f0 (a.getD i z34).f1 (a.getD i z34).f2 (a.getD i z34).f3 (a.getD i z34).f4 (a.getD i z34).f5 (a.getD i z34).f6 (a.getD i z34).f7 (b.getD i z34).f0 (b.getD i z34).f1 (b.getD i z34).f2 (b.getD i z34).f3 (b.getD i z34).f4 (b.getD i z34).f5 (b.getD i z34).f6 (b.getD i z34).f7).bind fun t163 => (if t163 = true then (impl_Node.l0 k b a (a.length : Int) ((i + 1 : Nat) : Int)) else (some false)) := by
      intro k
      simp only [impl_Node.l0, rd_T34, Int.toNat_natCast]
      rw [if_pos (by omega), if_pos (by omega), if_pos (by omega), if_pos (by omega), w64s (by omega)]
    refine Ev.step hr (Ev.bind hx ?_)
    unfold likeL
    by_cases he : like (a.getD i z34) (b.getD i z34)
    · rw [decide_eq_true he, Bool.true_and]
      exact ev_if rfl (ih (i + 1) (by omega) (by omega))
    · rw [decide_eq_false he, Bool.false_and]
      exact ev_else (by simp) (Ev.now _)
def sameT (a b : List S34) : Bool := if a.length = b.length then likeL a.length 0 a b else false
theorem impl_same (a b : List S34) (hl : a.length ≤ 1048576) (hs : ∀ x ∈ a, short1 x) : Ev (fun k => impl_SameTree.f k a b) (sameT a b) := by
  unfold impl_SameTree.f impl_Node.f sameT
  by_cases h : a.length = b.length
  · rw [if_pos h]
    exact Ev.bind (ev_if (by omega) (impl_nodes_l0 a b h hl hs a.length 0 (by omega) (by omega))) (Ev.now _)
  · rw [if_neg h]
    exact Ev.bind (ev_else (by omega) (Ev.now _)) (Ev.now _)
theorem spec_l2 (a b : List S34) (i : Nat) (x y : S34) (hlen : x.f5.length = y.f5.length) (hx : short1 x) (r : Bool) (hne : x.f5 ≠ y.f5 → r = false) (hgo : x.f5 = y.f5 → Ev (fun k => spec_SameTree.l0 k a b (wrap64 ((i : Int) + 1))) r) :
    ∀ (d j : Nat), x.f5.length - j = d → j ≤ x.f5.length → (x.f5.take j = y.f5.take j) → Ev (fun k => spec_SameTree.l2 k a b (i : Int) (j : Int) x.f0 x.f1 x.f2 x.f3 x.f4 x.f5 x.f6 x.f7 y.f0 y.f1 y.f2 y.f3 y.f4 y.f5 y.f6 y.f7) r := by
  intro d
  induction d with
  | zero =>
    intro j hd hj ht
    have he : x.f5 = y.f5 := by rw [List.take_of_length_le (by omega), List.take_of_length_le (by omega)] at ht; exact ht
    refine Ev.step (fun k => ?_) (hgo he)
    simp only [spec_SameTree.l2]
    rw [if_neg (by omega)]
  | succ d ih =>
    intro j hd hj ht
    have hr : ∀ k, spec_SameTree.l2 (k + 1) a b (i : Int) (j : Int) x.f0 x.f1 x.f2 x.f3 x.f4 x.f5 x.f6 x.f7 y.f0 y.f1 y.f2 y.f3 y.f4 y.f5 y.f6 y.f7 = if (x.f5.getD j ByteArray.empty).toList = (y.f5.getD j ByteArray.empty).toList then spec_SameTree.l2 k a b (i : Int) ((j + 1 : Nat) : Int) x.f0 x.f1 x.f2 x.f3 x.f4 x.f5 x.f6 x.f7 y.f0 y.f1 y.f2 y.f3 y.f4 y.f5 y.f6 y.f7 else some false := by
      intro k
      simp only [spec_SameTree.l2, rdOf, Int.toNat_natCast]
      rw [if_pos (by omega), if_pos (by omega), if_pos (by have := hx.2; omega), w64s (by have := hx.2; omega)]
      rfl
    refine Ev.step hr ?_
    by_cases he : (x.f5.getD j ByteArray.empty).toList = (y.f5.getD j ByteArray.empty).toList
    · refine ev_if he (ih (j + 1) (by omega) (by omega) ?_)
      have h2 := (text_eq _ _).1 he
      rw [List.getD_eq_getElem?_getD, List.getD_eq_getElem?_getD, List.getElem?_eq_getElem (by omega), List.getElem?_eq_getElem (by omega), Option.getD_some, Option.getD_some] at h2
      rw [List.take_succ_eq_append_getElem (by omega), List.take_succ_eq_append_getElem (by omega), ht, h2]
    · rw [hne (fun h => he (by rw [h]))]
      exact ev_else he (Ev.now _)
theorem spec_l1 (a b : List S34) (i : Nat) (x y : S34) (hlen : x.f4.length = y.f4.length) (hx : short1 x) (r : Bool) (hne : x.f4 ≠ y.f4 → r = false) (hgo : x.f4 = y.f4 → Ev (fun k => spec_SameTree.l2 k a b (i : Int) 0 x.f0 x.f1 x.f2 x.f3 x.f4 x.f5 x.f6 x.f7 y.f0 y.f1 y.f2 y.f3 y.f4 y.f5 y.f6 y.f7) r) :
    ∀ (d j : Nat), x.f4.length - j = d → j ≤ x.f4.length → (x.f4.take j = y.f4.take j) → Ev (fun k => spec_SameTree.l1 k a b (i : Int) (j : Int) x.f0 x.f1 x.f2 x.f3 x.f4 x.f5 x.f6 x.f7 y.f0 y.f1 y.f2 y.f3 y.f4 y.f5 y.f6 y.f7) r := by
  intro d
  induction d with
  | zero =>
    intro j hd hj ht
    have he : x.f4 = y.f4 := by rw [List.take_of_length_le (by omega), List.take_of_length_le (by omega)] at ht; exact ht
    refine Ev.step (fun k => ?_) (hgo he)
    simp only [spec_SameTree.l1]
    rw [if_neg (by omega)]
  | succ d ih =>
    intro j hd hj ht
    have hr : ∀ k, spec_SameTree.l1 (k + 1) a b (i : Int) (j : Int) x.f0 x.f1 x.f2 x.f3 x.f4 x.f5 x.f6 x.f7 y.f0 y.f1 y.f2 y.f3 y.f4 y.f5 y.f6 y.f7 = if x.f4.getD j 0 = y.f4.getD j 0 then spec_SameTree.l1 k a b (i : Int) ((j + 1 : Nat) : Int) x.f0 x.f1 x.f2 x.f3 x.f4 x.f5 x.f6 x.f7 y.f0 y.f1 y.f2 y.f3 y.f4 y.f5 y.f6 y.f7 else some false := by
      intro k
      simp only [spec_SameTree.l1, rd, Int.toNat_natCast]
      rw [if_pos (by omega), if_pos (by omega), if_pos (by have := hx.1; omega), w64s (by have := hx.1; omega)]
      rfl
    refine Ev.step hr ?_
    by_cases he : x.f4.getD j 0 = y.f4.getD j 0
    · refine ev_if he (ih (j + 1) (by omega) (by omega) ?_)
      have h2 := he
      rw [List.getD_eq_getElem?_getD, List.getD_eq_getElem?_getD, List.getElem?_eq_getElem (by omega), List.getElem?_eq_getElem (by omega), Option.getD_some, Option.getD_some] at h2
      rw [List.take_succ_eq_append_getElem (by omega), List.take_succ_eq_append_getElem (by omega), ht, h2]
    · rw [hne (fun h => he (by rw [h]))]
      exact ev_else he (Ev.now _)
theorem spec_l0 (a b : List S34) (h : a.length = b.length) (hl : a.length ≤ 1048576) (hs : ∀ x ∈ a, short1 x) : ∀ (d i : Nat), a.length - i = d → i ≤ a.length → Ev (fun k => spec_SameTree.l0 k a b (i : Int)) (likeL d i a b) := by
  intro d
  induction d with
  | zero =>
    intro i hd hi
    refine Ev.step (f := fun _ => some true) (fun k => ?_) (Ev.now _)
    simp only [spec_SameTree.l0]
    rw [if_neg (by omega)]
  | succ d ih =>
    intro i hd hi
    have hx := getD_all' short1 a z34 hs i (by omega)
    have hnext := ih (i + 1) (by omega) (by omega)
    rw [← w64s (x := i) (by omega)] at hnext
    have hlike : likeL (d + 1) i a b = (decide (like (a.getD i z34) (b.getD i z34)) && likeL d (i + 1) a b) := rfl
    have hj : ∀ (z : Bool) k, spec_SameTree.j1 (k + 1) a b (i : Int) z (a.getD i z34).f0 (a.getD i z34).f1 (a.getD i z34).f2 (a.getD i z34).f3 (a.getD i z34).f4 (a.getD i z34).f5 (a.getD i z34).f6 (a.getD i z34).f7 (b.getD i z34).f0 (b.getD i z34).f1 (b.getD i z34).f2 (b.getD i z34).f3 (b.getD i z34).f4 (b.getD i z34).f5 (b.getD i z34).f6 (b.getD i z34).f7 = if z = true then some false else spec_SameTree.l1 k a b (i : Int) 0 (a.getD i z34).f0 (a.getD i z34).f1 (a.getD i z34).f2 (a.getD i z34).f3 (a.getD i z34).f4 (a.getD i z34).f5 (a.getD i z34).f6 (a.getD i z34).f7 (b.getD i z34).f0 (b.getD i z34).f1 (b.getD i z34).f2 (b.getD i z34).f3 (b.getD i z34).f4 (b.getD i z34).f5 (b.getD i z34).f6 (b.getD i z34).f7 := fun _ _ => rfl
    have hr : ∀ k, spec_SameTree.l0 (k + 1) a b (i : Int) = if (a.getD i z34).f0 = (b.getD i z34).f0 then (if (a.getD i z34).f1 = (b.getD i z34).f1 then (if (a.getD i z34).f2 = (b.getD i z34).f2 then (if (a.getD i z34).f3 = (b.getD i z34).f3 then (if (a.getD i z34).f6 = (b.getD i z34).f6 then (if ((a.getD i z34).f4.length : Int) = ((b.getD i z34).f4.length : Int) then (spec_SameTree.j1 k a b (i : Int) (((a.getD i z34).f5.length : Int) != ((b.getD i z34).f5.length : Int)) (a.getD i z34).f0 (a.getD i z34).f1 (a.getD i z34).f2 (a.getD i z34).f3 (a.getD i z34).f4 (a.getD i z34).f5 (a.getD i z34).f6 (a.getD i z34).f7 (b.getD i z34).f0 (b.getD i z34).f1 (b.getD i z34).f2 (b.getD i z34).f3 (b.getD i z34).f4 (b.getD i z34).f5 (b.getD i z34).f6 (b.getD i z34).f7) else (spec_SameTree.j1 k a b (i : Int) true (a.getD i z34).f0 (a.getD i z34).f1 (a.getD i z34).f2 (a.getD i z34).f3 (a.getD i z34).f4 (a.getD i z34).f5 (a.getD i z34).f6 (a.getD i z34).f7 (b.getD i z34).f0 (b.getD i z34).f1 (b.getD i z34).f2 (b.getD i z34).f3 (b.getD i z34).f4 (b.getD i z34).f5 (b.getD i z34).f6 (b.getD i z34).f7)) else (spec_SameTree.j1 k a b (i : Int) true (a.getD i z34).f0 (a.getD i z34).f1 (a.getD i z34).f2 (a.getD i z34).f3 (a.getD i z34).f4 (a.getD i z34).f5 (a.getD i z34).f6 (a.getD i z34).f7 (b.getD i z34).f0 (b.getD i z34).f1 (b.getD i z34).f2 (b.getD i z34).f3 (b.getD i z34).f4 (b.getD i z34).f5 (b.getD i z34).f6 (b.getD i z34).f7)) else (spec_SameTree.j1 k a b (i : Int) true (a.getD i z34).f0 (a.getD i z34).f1 (a.getD i z34).f2 (a.getD i z34).f3 (a.getD i z34).f4 (a.getD i z34).f5 (a.getD i z34).f6 (a.getD i z34).f7 (b.getD i z34).f0 (b.getD i z34).f1 (b.getD i z34).f2 (b.getD i z34).f3 (b.getD i z34).f4 (b.getD i z34).f5 (b.getD i z34).f6 (b.getD i z34).f7)) else (spec_SameTree.j1 k a b (i : Int) true (a.getD i z34).f0 (a.getD i z34).f1 (a.getD i z34).f2 (a.getD i z34).f3 (a.getD i z34).f4 (a.getD i z34).f5 (a.getD i z34).f6 (a.getD i z34).f7 (b.getD i z34).f0 (b.getD i z34).f1 (b.getD i z34).f2 (b.getD i z34).f3 (b.getD i z34).f4 (b.getD i z34).f5 (b.getD i z34).f6 (b.getD i z34).f7)) else (spec_SameTree.j1 k a b (i : Int) true (a.getD i z34).f0 (a.getD i z34).f1 (a.getD i z34).f2 (a.getD i z34).f3 (a.getD i z34).f4 (a.getD i z34).f5 (a.getD i z34).f6 (a.getD i z34).f7 (b.getD i z34).f0 (b.getD i z34).f1 (b.getD i z34).f2 (b.getD i z34).f3 (b.getD i z34).f4 (b.getD i z34).f5 (b.getD i z34).f6 (b.getD i z34).f7)) else (spec_SameTree.j1 k a b (i : Int) true (a.getD i z34).f0 (a.getD i z34).f1 (a.getD i z34).f2 (a.getD i z34).f3 (a.getD i z34).f4 (a.getD i z34).f5 (a.getD i z34).f6 (a.getD i z34).f7 (b.getD i z34).f0 (b.getD i z34).f1 (b.getD i z34).f2 (b.getD i z34).f3 (b.getD i z34).f4 (b.getD i z34).f5 (b.getD i z34).f6 (b.getD i z34).f7) := by
      intro k
      simp only [spec_SameTree.l0, rd_T34, Int.toNat_natCast]
      rw [if_pos (by omega), if_pos (by omega), if_pos (by omega)]
      rfl
    rw [hlike]
    generalize a.getD i z34 = x at *
    generalize b.getD i z34 = y at *
    have hbad : ¬ like x y → Ev (fun k => spec_SameTree.j1 k a b (i : Int) true x.f0 x.f1 x.f2 x.f3 x.f4 x.f5 x.f6 x.f7 y.f0 y.f1 y.f2 y.f3 y.f4 y.f5 y.f6 y.f7) (decide (like x y) && likeL d (i + 1) a b) := by
      intro hn
      rw [decide_eq_false hn, Bool.false_and]
      exact Ev.step (f := fun _ => some false) (fun k => by rw [hj, if_pos rfl]) (Ev.now _)
    refine Ev.step hr ?_
    by_cases h0 : x.f0 = y.f0
    · refine ev_if h0 ?_
      by_cases h1 : x.f1 = y.f1
      · refine ev_if h1 ?_
        by_cases h2 : x.f2 = y.f2
        · refine ev_if h2 ?_
          by_cases h3 : x.f3 = y.f3
          · refine ev_if h3 ?_
            by_cases h6 : x.f6 = y.f6
            · refine ev_if h6 ?_
              by_cases h4 : x.f4.length = y.f4.length
              · refine ev_if (by omega) ?_
                by_cases h5 : x.f5.length = y.f5.length
                · rw [show ((x.f5.length : Int) != (y.f5.length : Int)) = false by simp [h5]]
                  refine Ev.step (hj false) (ev_else (by decide) ?_)
                  refine spec_l1 a b i x y h4 hx _ (fun hn => ?_) (fun e4 => ?_) x.f4.length 0 (by omega) (by omega) rfl
                  · rw [decide_eq_false (fun hh => hn hh.2.2.2.2.1), Bool.false_and]
                  · refine spec_l2 a b i x y h5 hx _ (fun hn => ?_) (fun e5 => ?_) x.f5.length 0 (by omega) (by omega) rfl
                    · rw [decide_eq_false (fun hh => hn hh.2.2.2.2.2.1), Bool.false_and]
                    · rw [decide_eq_true (show like x y from ⟨h0, h1, h2, h3, e4, e5, h6⟩), Bool.true_and]
                      exact hnext
                · rw [show ((x.f5.length : Int) != (y.f5.length : Int)) = true by simp; omega]
                  exact hbad (fun hh => h5 (by rw [hh.2.2.2.2.2.1]))
              · exact ev_else (by omega) (hbad (fun hh => h4 (by rw [hh.2.2.2.2.1])))
            · exact ev_else h6 (hbad (fun hh => h6 hh.2.2.2.2.2.2))
          · exact ev_else h3 (hbad (fun hh => h3 hh.2.2.2.1))
        · exact ev_else h2 (hbad (fun hh => h2 hh.2.2.1))
      · exact ev_else h1 (hbad (fun hh => h1 hh.2.1))
    · exact ev_else h0 (hbad (fun hh => h0 hh.1))
theorem spec_same (a b : List S34) (hl : a.length ≤ 1048576) (hs : ∀ x ∈ a, short1 x) : Ev (fun k => spec_SameTree.f k a b) (sameT a b) := by
  unfold spec_SameTree.f sameT
  by_cases h : a.length = b.length
  · rw [if_pos h]
    exact ev_if (by omega) (spec_l0 a b h hl hs a.length 0 (by omega) (by omega))
  · rw [if_neg h]
    exact ev_else (by omega) (Ev.now _)
theorem eq_ints_l0 (l : List Int) (hl : l.length ≤ 1048576) : ∀ (d i : Nat), l.length - i = d → i ≤ l.length → Ev (fun k => laws_eqIntS.l0 k l l (i : Int)) true := by
  intro d
  induction d with
  | zero =>
    intro i hd hi
    refine Ev.step (f := fun _ => some true) (fun k => ?_) (Ev.now _)
    simp only [laws_eqIntS.l0]
    rw [if_neg (by omega)]
  | succ d ih =>
    intro i hd hi
    refine Ev.step (fun k => ?_) (ih (i + 1) (by omega) (by omega))
    simp only [laws_eqIntS.l0, if_true]
    rw [if_pos (by omega), if_pos (by omega), if_pos (by omega), w64s (by omega)]
theorem eq_ints (l : List Int) (hl : l.length ≤ 1048576) : Ev (fun k => laws_eqIntS.f k l l) true := by
  unfold laws_eqIntS.f
  simp only [if_true]
  exact eq_ints_l0 l hl l.length 0 (by omega) (by omega)
theorem eq_strs_l0 (l : List ByteArray) (hl : l.length ≤ 1048576) : ∀ (d i : Nat), l.length - i = d → i ≤ l.length → Ev (fun k => laws_eqStringS.l0 k l l (i : Int)) true := by
  intro d
  induction d with
  | zero =>
    intro i hd hi
    refine Ev.step (f := fun _ => some true) (fun k => ?_) (Ev.now _)
    simp only [laws_eqStringS.l0]
    rw [if_neg (by omega)]
  | succ d ih =>
    intro i hd hi
    refine Ev.step (fun k => ?_) (ih (i + 1) (by omega) (by omega))
    simp only [laws_eqStringS.l0, if_true]
    rw [if_pos (by omega), if_pos (by omega), if_pos (by omega), w64s (by omega)]
theorem eq_strs (l : List ByteArray) (hl : l.length ≤ 1048576) : Ev (fun k => laws_eqStringS.f k l l) true := by
  unfold laws_eqStringS.f
  simp only [if_true]
  exact eq_strs_l0 l hl l.length 0 (by omega) (by omega)
theorem eq_node (x : S34) (h : short1 x) : Ev (fun k => laws_eqNode.f k x.f0 x.f1 x.f2 x.f3 x.f4 x.f5 x.f6 x.f7 x.f0 x.f1 x.f2 x.f3 x.f4 x.f5 x.f6 x.f7) true := by
  unfold laws_eqNode.f
  exact ev_if rfl (ev_if rfl (ev_if rfl (ev_if rfl (Ev.bind (eq_ints _ h.1) (ev_if rfl (Ev.bind (eq_strs _ h.2) (ev_if rfl (ev_if rfl (ev_if rfl (Ev.now _))))))))))
theorem eq_nodes_l0 (l : List S34) (hl : l.length ≤ 1048576) (hs : ∀ x ∈ l, short1 x) : ∀ (d i : Nat), l.length - i = d → i ≤ l.length → Ev (fun k => laws_eqNodeS.l0 k l l (i : Int)) true := by
  intro d
  induction d with
  | zero =>
    intro i hd hi
    refine Ev.step (f := fun _ => some true) (fun k => ?_) (Ev.now _)
    simp only [laws_eqNodeS.l0]
    rw [if_neg (by omega)]
  | succ d ih =>
    intro i hd hi
    have hr : ∀ k, laws_eqNodeS.l0 (k + 1) l l (i : Int) = (laws_eqNode.f k (l.getD i z34).f0 (l.getD i z34).f1 (l.getD i z34).f2 (l.getD i z34).f3 (l.getD i z34).f4 (l.getD i z34).f5 (l.getD i z34).f6 (l.getD i z34).f7 (l.getD i z34).f0 (l.getD i z34).f1 (l.getD i z34).f2 (l.getD i z34).f3 (l.getD i z34).f4 (l.getD i z34).f5 (l.getD i z34).f6 (l.getD i z34).f7).bind fun t175 => (if t175 = true then (laws_eqNodeS.l0 k l l ((i + 1 : Nat) : Int)) else (some false)) := by
      intro k
      simp only [laws_eqNodeS.l0, rd_T34, Int.toNat_natCast]
      rw [if_pos (by omega), if_pos (by omega), if_pos (by omega), w64s (by omega)]
    exact Ev.step hr (Ev.bind (eq_node _ (getD_all' short1 l z34 hs i (by omega))) (ev_if rfl (ih (i + 1) (by omega) (by omega))))
theorem eq_nodes (l : List S34) (hl : l.length ≤ 1048576) (hs : ∀ x ∈ l, short1 x) : Ev (fun k => laws_eqNodeS.f k l l) true := by
  unfold laws_eqNodeS.f
  simp only [if_true]
  exact eq_nodes_l0 l hl hs l.length 0 (by omega) (by omega)
theorem FnExactSameTree (a b : List S33) (ha : a.length ≤ 9223372036854775807) (hb : b.length ≤ 9223372036854775807) (hfa : ∀ x ∈ a, far x) (hfb : ∀ x ∈ b, far x) : ∃ k, laws_FnExactSameTree.f k a b = some true := by
  refine Ev.rounds ?_
  unfold laws_FnExactSameTree.f
  obtain ⟨z, e, c⟩ := size_nodes a 1048576 (by omega) (by omega) ha hfa
  refine Ev.bind e ?_
  rcases c with c | ⟨c1, c2, c3, c4⟩
  · exact ev_if (by omega) (Ev.now true)
  · refine ev_else (by omega) ?_
    obtain ⟨y, e2, d⟩ := size_nodes b z (by omega) (by omega) hb hfb
    refine Ev.bind e2 ?_
    rcases d with d | ⟨d1, d2, d3, d4⟩
    · exact ev_if (by omega) (Ev.now true)
    · refine ev_else (by omega) ?_
      have ta := to_nodes a c3 c4
      have tb := to_nodes b d3 d4
      have la : (a.map nodeC).length ≤ 1048576 := by rw [List.length_map]; exact c3
      have lb : (b.map nodeC).length ≤ 1048576 := by rw [List.length_map]; exact d3
      have hs : ∀ (l : List S33), (∀ x ∈ l, short0 x) → ∀ x ∈ l.map nodeC, short1 x := by
        intro l h x hx
        obtain ⟨y, hy, rfl⟩ := List.mem_map.1 hx
        exact h y hy
      have s1 := spec_same (a.map nodeC) (b.map nodeC) la (hs a c4)
      have s2 := impl_same (a.map nodeC) (b.map nodeC) la (hs a c4)
      have q1 := eq_nodes (a.map nodeC) la (hs a c4)
      have q2 := eq_nodes (b.map nodeC) lb (hs b d4)
      refine Ev.bind ta (Ev.bind tb (Ev.bind s1 (Ev.bind ta (Ev.bind tb (Ev.bind s2 ?_)))))
      rw [bne_self_eq_false]
      exact ev_else (by decide) (Ev.bind ta (Ev.bind q1 (ev_if rfl (Ev.bind tb (Ev.bind q2 (ev_if rfl (Ev.now true)))))))
end Go.Proofs.Ytfoekmfpcahmiaa.Pure
