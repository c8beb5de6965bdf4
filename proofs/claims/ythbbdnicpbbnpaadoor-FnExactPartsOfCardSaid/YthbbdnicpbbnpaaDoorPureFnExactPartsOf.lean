/- At every text of at most 2^20 bytes the program's PartsOf and the reference's tell the same; the parts stay as they were marked. No condition but the statement's own. -/
import Derived.Test.YthbbdnicpbbnpaaDoorMFnExactPartsOfx3
import Derived.Test.YthbbdnicpbbnpaaDoorCB
import Derived.Lib.SplitLaws
namespace Go.Proofs.YthbbdnicpbbnpaaDoor.Pure
open Go.RowKit Go.Proofs.YthbbdnicpbbnpaaDoor.MFnExactPartsOf Go.Proofs.YthbbdnicpbbnpaaDoorW.PrintWords Go.Proofs.YthbbdnicpbbnpaaDoorW.PrintLast Go.Proofs.YthbbdnicpbbnpaaDoor.CB
theorem ev_const {α : Type} {x : Option α} {r : α} (h : x = some r) : Ev (fun _ => x) r := by rw [h]; exact Ev.now r
theorem ev_if {α : Type} {c : Prop} [Decidable c] {f g : Nat → Option α} {r : α} (h : c) (k : Ev f r) : Ev (fun n => if c then f n else g n) r := Ev.congr (fun _ => if_pos h) k
theorem ev_else {α : Type} {c : Prop} [Decidable c] {f g : Nat → Option α} {r : α} (h : ¬ c) (k : Ev g r) : Ev (fun n => if c then f n else g n) r := Ev.congr (fun _ => if_neg h) k
/-- Whole numbers as bytes, and back. -/
def byteOf (n : Int) : UInt8 := UInt8.ofNat n.toNat
def castL (l : List UInt8) : List Int := l.map fun b => (b.toNat : Int)
theorem str_data (l : List Int) : (strOfNums l).data.toList = l.map byteOf := by unfold strOfNums byteOf; simp
theorem byteOf_cast (l : List UInt8) : (castL l).map byteOf = l := by
  unfold castL
  rw [List.map_map]
  conv => rhs; rw [← List.map_id l]
  apply List.map_congr_left
  intro b _
  simp [byteOf]
theorem cast_byteOf : ∀ (l : List Int), (∀ x ∈ l, 0 ≤ x ∧ x < 256) → castL (l.map byteOf) = l := by
  intro l
  induction l with
  | nil => intro _; rfl
  | cons x l ih =>
    intro h
    have hx := h x (by simp)
    have := ih (fun y hy => h y (by simp [hy]))
    unfold castL at this ⊢
    rw [List.map_cons, List.map_cons, this]
    congr 1
    simp [byteOf]; omega
theorem str_cast (l : List UInt8) : (strOfNums (castL l)).data.toList = l := by rw [str_data, byteOf_cast]
theorem byteArray_ext {a b : ByteArray} (h : a.data.toList = b.data.toList) : a = b := by
  cases a; cases b; congr; exact Array.toList_inj.mp h
theorem str_castA (s : ByteArray) : strOfNums (castL s.data.toList) = s := byteArray_ext (str_cast _)
theorem append_data (a b : ByteArray) : (a ++ b).data.toList = a.data.toList ++ b.data.toList := by simp
/-- The pieces between spaces that are not empty; acc is the piece at hand. -/
def wordsL : List UInt8 → List UInt8 → List (List UInt8)
  | acc, [] => if acc = [] then [] else [acc]
  | acc, c :: l => if c = 32 then (if acc = [] then wordsL [] l else acc :: wordsL [] l) else wordsL (acc ++ [c]) l
theorem index_at (c : UInt8) (l : List UInt8) : ∀ acc : List UInt8, c ∉ acc → Go.Lib.indexByte (acc ++ c :: l) c = (acc.length : Int) := by
  intro acc
  induction acc with
  | nil => intro _; simp [Go.Lib.indexByte]
  | cons a acc ih =>
    intro h
    have h1 : ¬ a = c := fun e => h (by rw [e]; exact List.mem_cons_self)
    have h2 := ih (fun e => h (List.mem_cons_of_mem _ e))
    simp only [List.cons_append, Go.Lib.indexByte, h2]
    simp [h1]
theorem index_none (c : UInt8) : ∀ acc : List UInt8, c ∉ acc → Go.Lib.indexByte acc c = -1 := by
  intro acc
  induction acc with
  | nil => intro _; rfl
  | cons a acc ih =>
    intro h
    have h1 : ¬ a = c := fun e => h (by rw [e]; exact List.mem_cons_self)
    have h2 := ih (fun e => h (List.mem_cons_of_mem _ e))
    simp only [Go.Lib.indexByte, h2]
    simp [h1]
theorem split_words : ∀ (l acc : List UInt8), (32 : UInt8) ∉ acc → (Go.Lib.splitK [32] 0 (Go.Lib.count (acc ++ l) [32]) (acc ++ l)).filter (fun p => decide (p ≠ [])) = wordsL acc l := by
  intro l
  induction l with
  | nil =>
    intro acc h
    rw [List.append_nil, Go.Lib.count_one, List.count_eq_zero_of_not_mem h]
    simp only [Go.Lib.splitK, wordsL]
    by_cases h0 : acc = []
    · simp [h0]
    · simp [h0]
  | cons c l ih =>
    intro acc h
    by_cases hc : c = 32
    · subst hc
      have hn : Go.Lib.count (acc ++ 32 :: l) [32] = Go.Lib.count l [32] + 1 := by
        rw [Go.Lib.count_one, Go.Lib.count_one, List.count_append, List.count_eq_zero_of_not_mem h, List.count_cons_self, Nat.zero_add]
      have hi := index_at 32 l acc h
      have h2 := ih [] (by simp)
      rw [List.nil_append] at h2
      rw [hn]
      simp only [Go.Lib.splitK, Go.Lib.index_one, hi, wordsL]
      rw [if_neg (by simp)]
      simp only [Int.toNat_natCast, Nat.add_zero, List.length_singleton]
      rw [List.take_left' rfl, show acc ++ 32 :: l = (acc ++ [32]) ++ l by simp, List.drop_left' (by simp), List.filter_cons, h2]
      by_cases h0 : acc = []
      · simp [h0]
      · simp [h0]
    · have h2 := ih (acc ++ [c]) (by simp [h, Ne.symm hc])
      rw [List.append_assoc] at h2
      simp only [wordsL, if_neg hc]
      exact h2
theorem text_eq (a b : ByteArray) : a.toList = b.toList ↔ a = b := by
  rw [ByteArray.toList_eq, ByteArray.toList_eq]
  exact ⟨fun h => byteArray_ext h, fun h => by rw [h]⟩
theorem cut_list (u : ByteArray) (a b : Nat) : (u.extract a b).data.toList = (u.data.toList.drop a).take (b - a) := by
  rw [ByteArray.data_extract, Array.toList_extract, List.extract_eq_take_drop]
def plainB (b : UInt8) : Bool := decide (32 ≤ b.toNat ∧ b.toNat ≤ 126)
/-- The program's test of plain text. -/
theorem impl_plain_l0 (s : ByteArray) (hs : s.size ≤ 300) : ∀ (d i : Nat), s.size - i = d → i ≤ s.size → Ev (fun k => impl_isPlain.l0 k s (s.size : Int) (i : Int)) ((s.data.toList.drop i).all plainB) := by
  intro d
  induction d with
  | zero =>
    intro i hd hi
    rw [List.drop_of_length_le (show s.data.toList.length ≤ i from by show s.size ≤ i; omega)]
    refine Ev.step (f := fun _ => some true) (fun k => ?_) (Ev.now _)
    simp only [impl_isPlain.l0]
    rw [if_neg (by omega)]
  | succ d ih =>
    intro i hd hi
    have hil : i < s.data.toList.length := by show i < s.size; omega
    have hb := bt_list s i (by omega)
    rw [List.drop_eq_getElem_cons hil, List.all_cons]
    have hr : ∀ k, impl_isPlain.l0 (k + 1) s (s.size : Int) (i : Int) = if bt s (i : Int) < 32 then some false else if bt s (i : Int) > 126 then some false else impl_isPlain.l0 k s (s.size : Int) ((i + 1 : Nat) : Int) := by
      intro k
      simp only [impl_isPlain.l0]
      rw [if_pos (by omega), if_pos (by omega), if_pos (by omega), w64s (by omega)]
    refine Ev.step hr ?_
    by_cases h1 : bt s (i : Int) < 32
    · refine ev_if h1 ?_
      rw [show plainB s.data.toList[i] = false by unfold plainB; exact decide_eq_false (by omega), Bool.false_and]
      exact Ev.now _
    · refine ev_else h1 ?_
      by_cases h2 : bt s (i : Int) > 126
      · refine ev_if h2 ?_
        rw [show plainB s.data.toList[i] = false by unfold plainB; exact decide_eq_false (by omega), Bool.false_and]
        exact Ev.now _
      · refine ev_else h2 ?_
        rw [show plainB s.data.toList[i] = true by unfold plainB; exact decide_eq_true (by omega), Bool.true_and]
        exact ih (i + 1) (by omega) (by omega)
/-- What the program keeps of the pieces. -/
theorem impl_keep (X : List ByteArray) (hX : X.length ≤ 301) : ∀ (d i : Nat) (T : List ByteArray), X.length - i = d → i ≤ X.length → T.length ≤ i → Ev (fun k => impl_PartsOf.l0 k T X (X.length : Int) (i : Int)) (if (T ++ (X.drop i).filter (fun x => decide (x ≠ ByteArray.empty))).length > 8 then ([], false) else (T ++ (X.drop i).filter (fun x => decide (x ≠ ByteArray.empty)), true)) := by
  intro d
  induction d with
  | zero =>
    intro i T hd hi hT
    rw [List.drop_of_length_le (by omega), List.filter_nil, List.append_nil]
    refine Ev.step (f := fun _ => some (if T.length > 8 then (([] : List ByteArray), false) else (T, true))) (fun k => ?_) (Ev.now _)
    simp only [impl_PartsOf.l0]
    rw [if_neg (by omega)]
    by_cases h : T.length > 8
    · rw [if_pos (by omega), if_pos h]
    · rw [if_neg (by omega), if_neg h]
  | succ d ih =>
    intro i T hd hi hT
    have hr : ∀ k, impl_PartsOf.l0 (k + 1) T X (X.length : Int) (i : Int) = if (X.getD i ByteArray.empty).toList = ([] : List UInt8) then impl_PartsOf.l0 k T X (X.length : Int) ((i + 1 : Nat) : Int) else impl_PartsOf.l0 k (T ++ [X.getD i ByteArray.empty]) X (X.length : Int) ((i + 1 : Nat) : Int) := by
      intro k
      simp only [impl_PartsOf.l0, rdOf, Int.toNat_natCast]
      rw [if_pos (by omega), if_pos (by omega), if_pos (by omega), w64s (by omega), if_pos (show T.length < 8796093022208 by omega)]
      rfl
    have hg : X.getD i ByteArray.empty = X[i] := by rw [List.getD_eq_getElem?_getD, List.getElem?_eq_getElem (by omega)]; rfl
    rw [hg] at hr
    have he : X[i].toList = ([] : List UInt8) ↔ X[i] = ByteArray.empty := by
      rw [show ([] : List UInt8) = ByteArray.empty.toList by rw [ByteArray.toList_eq]; rfl, text_eq]
    refine Ev.step hr ?_
    rw [List.drop_eq_getElem_cons (by omega), List.filter_cons]
    by_cases h : X[i].toList = ([] : List UInt8)
    · refine ev_if h ?_
      rw [if_neg (show ¬ decide (X[i] ≠ ByteArray.empty) = true by rw [decide_eq_true_eq]; exact fun hh => hh (he.1 h))]
      exact ih (i + 1) T (by omega) (by omega) (by omega)
    · refine ev_else h ?_
      rw [if_pos (show decide (X[i] ≠ ByteArray.empty) = true by rw [decide_eq_true_eq]; exact fun e => h (he.2 e))]
      have := ih (i + 1) (T ++ [X[i]]) (by omega) (by omega) (by simp; omega)
      rw [List.append_assoc] at this
      exact this
def wordsB (acc l : List UInt8) : List ByteArray := (wordsL acc l).map (fun p => (⟨p.toArray⟩ : ByteArray))
def endB (F : List ByteArray) : List ByteArray × Bool := if F.length > 8 then ([], false) else (F, true)
def restB (T : List ByteArray) (acc l : List UInt8) : List ByteArray × Bool := if l.all plainB = true then endB (T ++ wordsB acc l) else ([], false)
theorem spec_end (s : ByteArray) (T : List ByteArray) (b : Int) (i : Nat) (h : s.size < i) : Ev (fun k => spec_PartsOf.l0 k s T b (i : Int)) (endB T) := by
  refine Ev.step (f := fun _ => some (endB T)) (fun k => ?_) (Ev.now _)
  simp only [spec_PartsOf.l0]
  rw [if_neg (by omega)]
  unfold endB
  by_cases h : T.length > 8
  · rw [if_pos (by omega), if_pos h]
  · rw [if_neg (by omega), if_neg h]
/-- Behind a space, or at the end: the piece at hand is taken if it is not empty. -/
theorem spec_take (s : ByteArray) (hs : s.size ≤ 300) (T : List ByteArray) (b i : Nat) (hb : b ≤ i) (hi : i ≤ s.size) (hT : T.length ≤ i) (R : List ByteArray × Bool)
    (h : Ev (fun k => spec_PartsOf.l0 k s (if (s.data.toList.drop b).take (i - b) = [] then T else T ++ [⟨((s.data.toList.drop b).take (i - b)).toArray⟩]) ((i + 1 : Nat) : Int) ((i + 1 : Nat) : Int)) R) : Ev (fun k => spec_PartsOf.j2 k s T (b : Int) (i : Int) false) R := by
  have hr : ∀ k, spec_PartsOf.j2 (k + 1) s T (b : Int) (i : Int) false = if b < i then spec_PartsOf.l0 k s (T ++ [s.extract b i]) ((i + 1 : Nat) : Int) ((i + 1 : Nat) : Int) else spec_PartsOf.l0 k s T ((i + 1 : Nat) : Int) ((i + 1 : Nat) : Int) := by
    intro k
    simp only [spec_PartsOf.j2, Bool.false_eq_true, if_false, Int.toNat_natCast]
    rw [w64s (by omega)]
    by_cases hbi : b < i
    · rw [if_pos (by omega), if_pos (by omega), if_pos (by omega), if_pos (by omega), if_pos (by omega), if_pos hbi]
    · rw [if_neg (by omega), if_neg hbi]
  have hl : s.data.toList.length = s.size := rfl
  have hlen : ((s.data.toList.drop b).take (i - b)).length = i - b := by rw [List.length_take, List.length_drop, hl]; omega
  refine Ev.step hr ?_
  by_cases hbi : b < i
  · rw [if_neg (by intro e; rw [e] at hlen; simp at hlen; omega)] at h
    refine ev_if hbi ?_
    rw [show s.extract b i = ⟨((s.data.toList.drop b).take (i - b)).toArray⟩ from byteArray_ext (by rw [cut_list])]
    exact h
  · rw [if_pos (List.eq_nil_of_length_eq_zero (by omega))] at h
    exact ev_else hbi h
theorem wordsB_nil (acc : List UInt8) : wordsB acc [] = if acc = [] then [] else [⟨acc.toArray⟩] := by
  unfold wordsB
  simp only [wordsL]
  split <;> rfl
theorem wordsB_space (acc l : List UInt8) : wordsB acc (32 :: l) = (if acc = [] then [] else [⟨acc.toArray⟩]) ++ wordsB [] l := by
  unfold wordsB
  simp only [wordsL, if_true]
  split <;> rfl
theorem spec_loop (s : ByteArray) (hs : s.size ≤ 300) : ∀ (d i b : Nat) (T : List ByteArray), s.size - i = d → i ≤ s.size → b ≤ i → (32 : UInt8) ∉ (s.data.toList.drop b).take (i - b) → T.length ≤ i →
    Ev (fun k => spec_PartsOf.l0 k s T (b : Int) (i : Int)) (restB T ((s.data.toList.drop b).take (i - b)) (s.data.toList.drop i)) := by
  intro d
  have hl : s.data.toList.length = s.size := rfl
  have hj1 : ∀ (T : List ByteArray) (b i : Int) (z : Bool) k, spec_PartsOf.j1 (k + 1) s T b i z = if z = true then (some ((([] : List ByteArray)), false)) else (if i < (s.size : Int) then (if 0 ≤ i then (spec_PartsOf.j2 k s T b i ((bt s i) != 32)) else (none)) else (spec_PartsOf.j2 k s T b i false)) := fun _ _ _ _ _ => rfl
  induction d with
  | zero =>
    intro i b T hd hi hb h32 hT
    obtain rfl : i = s.size := by omega
    have hr : ∀ k, spec_PartsOf.l0 (k + 1) s T (b : Int) (s.size : Int) = spec_PartsOf.j1 k s T (b : Int) (s.size : Int) false := by
      intro k
      simp only [spec_PartsOf.l0]
      rw [if_pos (by omega), if_neg (by omega)]
    refine Ev.step hr (Ev.step (hj1 T b s.size false) (ev_else (by decide) (ev_else (by omega) ?_)))
    refine spec_take s hs T b s.size hb (Nat.le_refl _) hT _ ?_
    have he := spec_end s (if (s.data.toList.drop b).take (s.size - b) = [] then T else T ++ [⟨((s.data.toList.drop b).take (s.size - b)).toArray⟩]) ((s.size + 1 : Nat) : Int) (s.size + 1) (by omega)
    rw [show restB T ((s.data.toList.drop b).take (s.size - b)) (s.data.toList.drop s.size) = endB (if (s.data.toList.drop b).take (s.size - b) = [] then T else T ++ [⟨((s.data.toList.drop b).take (s.size - b)).toArray⟩]) by
      unfold restB
      rw [List.drop_of_length_le (Nat.le_of_eq hl), wordsB_nil, List.all_nil, if_pos rfl]
      split <;> simp]
    exact he
  | succ d ih =>
    intro i b T hd hi hb h32 hT
    have hil : i < s.data.toList.length := by omega
    have hbt := bt_list s i (by omega)
    have hr : ∀ k, spec_PartsOf.l0 (k + 1) s T (b : Int) (i : Int) = if bt s (i : Int) < 32 then spec_PartsOf.j1 k s T (b : Int) (i : Int) true else spec_PartsOf.j1 k s T (b : Int) (i : Int) (decide (bt s (i : Int) > 126)) := by
      intro k
      simp only [spec_PartsOf.l0]
      rw [if_pos (by omega), if_pos (by omega), if_pos (by omega)]
    have hbad : plainB s.data.toList[i] = false → restB T ((s.data.toList.drop b).take (i - b)) (s.data.toList.drop i) = ([], false) := by
      intro h
      unfold restB
      rw [List.drop_eq_getElem_cons hil, List.all_cons, h, Bool.false_and, if_neg (by decide)]
    refine Ev.step hr ?_
    by_cases h1 : bt s (i : Int) < 32
    · rw [hbad (by unfold plainB; exact decide_eq_false (by omega))]
      exact ev_if h1 (Ev.step (hj1 T b i true) (ev_if rfl (Ev.now _)))
    · refine ev_else h1 ?_
      by_cases h2 : bt s (i : Int) > 126
      · rw [hbad (by unfold plainB; exact decide_eq_false (by omega)), decide_eq_true h2]
        exact Ev.step (hj1 T b i true) (ev_if rfl (Ev.now _))
      · rw [decide_eq_false h2]
        refine Ev.step (hj1 T b i false) (ev_else (by decide) (ev_if (by omega) (ev_if (by omega) ?_)))
        have hp : plainB s.data.toList[i] = true := by unfold plainB; exact decide_eq_true (by omega)
        have hdrop := List.drop_eq_getElem_cons hil
        by_cases h3 : s.data.toList[i] = 32
        · rw [show (bt s (i : Int) != 32) = false by rw [hbt, h3]; decide]
          refine spec_take s hs T b i hb (by omega) hT _ ?_
          have h4 := ih (i + 1) (i + 1) (if (s.data.toList.drop b).take (i - b) = [] then T else T ++ [⟨((s.data.toList.drop b).take (i - b)).toArray⟩]) (by omega) (by omega) (Nat.le_refl _) (by rw [Nat.sub_self, List.take_zero]; simp) (by
            split
            · omega
            · rw [List.length_append, List.length_singleton]; omega)
          rw [Nat.sub_self, List.take_zero] at h4
          have e : restB T ((s.data.toList.drop b).take (i - b)) (s.data.toList.drop i) = restB (if (s.data.toList.drop b).take (i - b) = [] then T else T ++ [⟨((s.data.toList.drop b).take (i - b)).toArray⟩]) [] (s.data.toList.drop (i + 1)) := by
            unfold restB
            rw [hdrop, List.all_cons, hp, Bool.true_and, h3, wordsB_space]
            split
            · split <;> simp
            · rfl
          rw [e]
          exact h4
        · rw [show (bt s (i : Int) != 32) = true by
            rw [hbt, bne_iff_ne]
            intro e
            exact h3 (UInt8.toNat_inj.1 (by show s.data.toList[i].toNat = 32; omega))]
          have hj2 : ∀ k, spec_PartsOf.j2 (k + 1) s T (b : Int) (i : Int) true = spec_PartsOf.l0 k s T (b : Int) ((i + 1 : Nat) : Int) := by
            intro k
            simp only [spec_PartsOf.j2, if_true]
            rw [w64s (by omega)]
          have ht : (s.data.toList.drop b).take (i + 1 - b) = (s.data.toList.drop b).take (i - b) ++ [s.data.toList[i]] := by
            rw [show i + 1 - b = (i - b) + 1 by omega, List.take_succ_eq_append_getElem (by rw [List.length_drop]; omega)]
            simp only [List.getElem_drop]
            congr 3
            omega
          have h4 := ih (i + 1) b T (by omega) (by omega) (by omega) (by rw [ht, List.mem_append, List.mem_singleton]; exact fun e => e.elim h32 (fun e => h3 e.symm)) (by omega)
          rw [ht] at h4
          have e : restB T ((s.data.toList.drop b).take (i - b)) (s.data.toList.drop i) = restB T ((s.data.toList.drop b).take (i - b) ++ [s.data.toList[i]]) (s.data.toList.drop (i + 1)) := by
            unfold restB wordsB
            rw [hdrop, List.all_cons, hp, Bool.true_and]
            simp only [wordsL, if_neg h3]
          rw [e]
          exact Ev.step hj2 h4
theorem keep_words (s : ByteArray) : (Go.Lib.splitB ⟨#[32]⟩ 0 (Go.Lib.countB s ⟨#[32]⟩) s).filter (fun x => decide (x ≠ ByteArray.empty)) = wordsB [] s.data.toList := by
  have h1 := Go.Lib.splitB_data ⟨#[32]⟩ 0 (Go.Lib.countB s ⟨#[32]⟩) s
  have h2 := split_words s.data.toList [] (by simp)
  rw [List.nil_append] at h2
  have h3 : ((Go.Lib.splitB ⟨#[32]⟩ 0 (Go.Lib.countB s ⟨#[32]⟩) s).map (·.data.toList)).filter (fun p => decide (p ≠ [])) = wordsL [] s.data.toList := by
    rw [h1]; exact h2
  unfold wordsB
  rw [← h3, List.filter_map, List.map_map]
  have hp : (fun x : ByteArray => decide (x ≠ ByteArray.empty)) = ((fun p : List UInt8 => decide (p ≠ [])) ∘ fun x : ByteArray => x.data.toList) := by
    funext x
    show decide _ = decide _
    rw [decide_eq_decide]
    refine not_congr ⟨fun h => by rw [h]; rfl, fun h => byteArray_ext h⟩
  rw [hp]
  refine ((List.map_id _).symm.trans ?_)
  refine List.map_congr_left (fun x _ => ?_)
  exact byteArray_ext rfl
/-- What both tell. -/
def partsT (s : ByteArray) : List ByteArray × Bool := if s.size > 300 then ([], false) else restB [] [] s.data.toList
theorem spec_partsOf (s : ByteArray) (hs : s.size ≤ 140737488351232) : Ev (fun k => spec_PartsOf.f k s) (partsT s) := by
  unfold spec_PartsOf.f partsT
  simp only [Option.bind_some]
  by_cases h : s.size > 300
  · rw [if_pos h]
    exact ev_if (by omega) (Ev.now _)
  · rw [if_neg h]
    have h1 := spec_loop s (by omega) s.size 0 0 [] (by omega) (by omega) (by omega) (by simp) (by simp)
    rw [List.drop_zero, Nat.sub_self, List.take_zero] at h1
    exact ev_else (by omega) h1
theorem impl_partsOf (s : ByteArray) (hs : s.size ≤ 140737488351232) : Ev (fun k => impl_PartsOf.f k s) (partsT s) := by
  have hj : ∀ (z : Bool) k, impl_PartsOf.j0 (k + 1) s z = if z = true then (some (([] : List ByteArray), false)) else ((strings_Split.f s (⟨#[32]⟩ : ByteArray)).bind fun t117 => (impl_PartsOf.l0 k (([] : List ByteArray)) t117 (t117.length : Int) 0)) := fun _ _ => rfl
  unfold impl_PartsOf.f partsT
  by_cases h : s.size > 300
  · rw [if_pos h]
    exact ev_if (by omega) (Ev.step (hj true) (ev_if rfl (Ev.now _)))
  · rw [if_neg h]
    have h1 := impl_plain_l0 s (by omega) s.size 0 (by omega) (by omega)
    rw [List.drop_zero] at h1
    refine ev_else (by omega) (Ev.bind (show Ev (fun k => impl_isPlain.f k s) _ from h1) ?_)
    unfold restB
    by_cases hp : s.data.toList.all plainB = true
    · rw [if_pos hp, hp]
      refine Ev.step (hj _) (ev_else (by decide) ?_)
      have hsp : strings_Split.f s (⟨#[32]⟩ : ByteArray) = some (Go.Lib.splitB ⟨#[32]⟩ 0 (Go.Lib.countB s ⟨#[32]⟩) s) := by
        unfold strings_Split.f Go.Proofs.YthbbdnicpbbnpaaDoor.G.strings_Split
        rw [if_pos ⟨by omega, rfl⟩]
      refine Ev.bind (ev_const hsp) ?_
      have hle := Go.Lib.countB_le ⟨#[32]⟩ (Nat.le_refl 1) s.size s (Nat.le_refl _)
      have hln := Go.Lib.splitB_length_le ⟨#[32]⟩ 0 (Go.Lib.countB s ⟨#[32]⟩) s
      have h2 := impl_keep (Go.Lib.splitB ⟨#[32]⟩ 0 (Go.Lib.countB s ⟨#[32]⟩) s) (by omega) _ 0 [] rfl (by omega) (by simp)
      rw [List.drop_zero, keep_words] at h2
      exact h2
    · rw [if_neg hp, show s.data.toList.all plainB = false by simpa using hp]
      exact Ev.step (hj _) (ev_if rfl (Ev.now _))
theorem eq_strs_l0 (l : List ByteArray) (hl : l.length ≤ 1048576) : ∀ (d i : Nat), l.length - i = d → i ≤ l.length → Ev (fun k => laws_eqStringS.l0 k l l (i : Int)) true := by
  intro d
  induction d with
  | zero =>
    intro i hd hi
    refine Ev.step (f := fun _ => some true) (fun k => ?_) (Ev.now _)
    simp only [laws_eqStringS.l0]
    rw [if_neg (by omega)]
  | succ d ih =>
    intro i hd hi
    refine Ev.step (fun k => ?_) (ih (i + 1) (by omega) (by omega))
    simp only [laws_eqStringS.l0, if_true]
    rw [if_pos (by omega), if_pos (by omega), if_pos (by omega), w64s (by omega)]
theorem eq_strs (l : List ByteArray) (hl : l.length ≤ 1048576) : Ev (fun k => laws_eqStringS.f k l l) true := by
  unfold laws_eqStringS.f
  simp only [if_true]
  exact eq_strs_l0 l hl l.length 0 (by omega) (by omega)
theorem mark_text (n : Nat) (h1 : 1 ≤ n) (h2 : n ≤ 9) : ∃ t, Ev (fun k => laws_markText.f k (n : Int)) t := by
  refine ⟨(⟨#[109]⟩ : ByteArray) ++ (strOfNums [(wrap64 (48 + (Int.tmod (n : Int) 10))) % 256] ++ (⟨#[]⟩ : ByteArray)), ?_⟩
  unfold laws_markText.f
  refine ev_else (by omega) ?_
  have e0 : (strOfNums [(wrap64 (48 + (Int.tmod (n : Int) 10))) % 256]).size = 1 := by rw [str_size]; rfl
  have e1 : (⟨#[]⟩ : ByteArray).size = 0 := rfl
  have hw : wrap64 (Int.tdiv (n : Int) 10) = 0 := by rw [show Int.tdiv (n : Int) 10 = 0 by rw [Int.tdiv_eq_ediv_of_nonneg (by omega)]; omega]; exact w64 (by omega) (by omega)
  have hr : ∀ k, laws_markText.l0 (k + 1) (n : Int) (⟨#[]⟩ : ByteArray) = laws_markText.l0 k 0 (strOfNums [(wrap64 (48 + (Int.tmod (n : Int) 10))) % 256] ++ (⟨#[]⟩ : ByteArray)) := by
    intro k
    simp only [laws_markText.l0, Option.bind_some]
    rw [if_pos (by omega), if_pos (by omega), hw]
  refine Ev.step hr ?_
  refine Ev.step (f := fun _ => some ((⟨#[109]⟩ : ByteArray) ++ (strOfNums [(wrap64 (48 + (Int.tmod (n : Int) 10))) % 256] ++ (⟨#[]⟩ : ByteArray)))) (fun k => ?_) (Ev.now _)
  simp only [laws_markText.l0]
  rw [if_neg (by omega), if_pos (by rw [ByteArray.size_append]; omega)]
noncomputable def mt (n : Nat) : ByteArray := if h : 1 ≤ n ∧ n ≤ 9 then (mark_text n h.1 h.2).choose else ByteArray.empty
theorem mt_ev (n : Nat) (h1 : 1 ≤ n) (h2 : n ≤ 9) : Ev (fun k => laws_markText.f k (n : Int)) (mt n) := by
  unfold mt
  rw [dif_pos ⟨h1, h2⟩]
  exact (mark_text n h1 h2).choose_spec
/-- Each text from i on is its mark; those before it are as they were. -/
def markedFrom (X : List ByteArray) : Prop := ∀ j, j < X.length → X.getD j ByteArray.empty = mt (j + 1)
theorem mark_l0 (n : Nat) (hn : n ≤ 8) : ∀ (d i : Nat) (X : List ByteArray), n - i = d → i ≤ n → X.length = n → (∀ j, j < i → X.getD j ByteArray.empty = mt (j + 1)) →
    ∃ Y, Ev (fun k => laws_markStringS.l0 k X ((i + 1 : Nat) : Int) (i : Int)) (((n + 1 : Nat) : Int), Y) ∧ Y.length = n ∧ markedFrom Y := by
  intro d
  induction d with
  | zero =>
    intro i X hd hi hX hm
    obtain rfl : i = n := by omega
    refine ⟨X, Ev.step (f := fun _ => some (((i + 1 : Nat) : Int), X)) (fun k => ?_) (Ev.now _), hX, fun j hj => hm j (by omega)⟩
    simp only [laws_markStringS.l0]
    rw [if_neg (by omega)]
  | succ d ih =>
    intro i X hd hi hX hm
    obtain ⟨Y, e, r⟩ := ih (i + 1) (X.set i (mt (i + 1))) (by omega) (by omega) (by rw [List.length_set]; exact hX) (by
      intro j hj
      rw [List.getD_eq_getElem?_getD]
      by_cases hji : j = i
      · subst hji; rw [List.getElem?_set_self (by omega)]; rfl
      · rw [List.getElem?_set_ne (Ne.symm hji), ← List.getD_eq_getElem?_getD]; exact hm j (by omega))
    have hr : ∀ k, laws_markStringS.l0 (k + 1) X ((i + 1 : Nat) : Int) (i : Int) = (laws_markText.f k ((i + 1 : Nat) : Int)).bind fun t129 => laws_markStringS.l0 k (X.set i t129) ((i + 1 + 1 : Nat) : Int) ((i + 1 : Nat) : Int) := by
      intro k
      simp only [laws_markStringS.l0]
      rw [if_pos (by omega)]
      refine congrArg _ (funext fun t => ?_)
      rw [if_pos (by omega), w64s (by omega), w64s (by omega), Int.toNat_natCast]
    exact ⟨Y, Ev.step hr (Ev.bind (mt_ev (i + 1) (by omega) (by omega)) e), r⟩
theorem held_l0 (X : List ByteArray) (hn : X.length ≤ 8) (hm : markedFrom X) : ∀ (d i : Nat), X.length - i = d → i ≤ X.length → Ev (fun k => laws_heldStringS.l0 k X ((i + 1 : Nat) : Int) (i : Int)) ((X.length + 1 : Nat) : Int) := by
  intro d
  induction d with
  | zero =>
    intro i hd hi
    obtain rfl : i = X.length := by omega
    refine Ev.step (f := fun _ => some ((X.length + 1 : Nat) : Int)) (fun k => ?_) (Ev.now _)
    simp only [laws_heldStringS.l0]
    rw [if_neg (by omega)]
  | succ d ih =>
    intro i hd hi
    have hr : ∀ k, laws_heldStringS.l0 (k + 1) X ((i + 1 : Nat) : Int) (i : Int) = (laws_markText.f k ((i + 1 : Nat) : Int)).bind fun t132 => (if (X.getD i ByteArray.empty).toList = t132.toList then laws_heldStringS.l0 k X ((i + 1 + 1 : Nat) : Int) ((i + 1 : Nat) : Int) else some (-1)) := by
      intro k
      simp only [laws_heldStringS.l0, rdOf, Int.toNat_natCast]
      rw [if_pos (by omega), if_pos (by omega), w64s (by omega), w64s (by omega)]
      rfl
    exact Ev.step hr (Ev.bind (mt_ev (i + 1) (by omega) (by omega)) (ev_if (by rw [hm i (by omega)]) (ih (i + 1) (by omega) (by omega))))
theorem parts_short (s : ByteArray) : (partsT s).1.length ≤ 8 := by
  unfold partsT restB endB
  split
  · simp
  · split
    · split
      · simp
      · rename_i h; exact Nat.not_lt.1 h
    · simp
theorem FnExactPartsOf : laws_FnExactPartsOf.Pure := by
  intro s hs
  refine Ev.rounds ?_
  unfold laws_FnExactPartsOf.f
  by_cases hb : (s.size : Int) > 1048576
  · exact ev_if hb (Ev.now true)
  · have h1 := spec_partsOf s hs
    have h2 := impl_partsOf s hs
    have h8 := parts_short s
    have h3 := eq_strs (partsT s).1 (by omega)
    obtain ⟨Y, m1, m2, m3⟩ := mark_l0 (partsT s).1.length h8 _ 0 (partsT s).1 rfl (by omega) rfl (by intro j hj; omega)
    have h4 := held_l0 Y (by omega) m3 _ 0 rfl (by omega)
    rw [m2] at h4
    have hj0 : ∀ k, laws_FnExactPartsOf.j0 (k + 1) s (partsT s).1 (partsT s).2 (partsT s).1 false = (laws_markStringS.f k (partsT s).1 1).bind fun bt142 => ((laws_heldStringS.f k bt142.2 1).bind fun t144 => (if t144 < 0 then (some false) else (if t144 = bt142.1 then ((impl_PartsOf.f k s).bind fun bt145 => ((laws_eqStringS.f k bt145.1 (partsT s).1).bind fun t149 => (if t149 = true then (laws_FnExactPartsOf.j1 k bt142.2 bt142.1 (bt145.2 != (partsT s).2)) else (laws_FnExactPartsOf.j1 k bt142.2 bt142.1 true)))) else (some false)))) := fun _ => rfl
    have hj1 : ∀ k, laws_FnExactPartsOf.j1 (k + 1) Y (((partsT s).1.length + 1 : Nat) : Int) false = (laws_heldStringS.f k Y 1).bind fun t150 => (if t150 < 0 then (some false) else (if t150 = (((partsT s).1.length + 1 : Nat) : Int) then (some true) else (some false))) := fun _ => rfl
    refine ev_else hb (Ev.bind h1 (Ev.bind h2 (Ev.bind h3 (ev_if rfl ?_))))
    rw [bne_self_eq_false]
    refine Ev.step hj0 (Ev.bind m1 (Ev.bind h4 (ev_else (by omega) (ev_if rfl (Ev.bind h2 (Ev.bind h3 (ev_if rfl ?_)))))))
    rw [bne_self_eq_false]
    exact Ev.step hj1 (Ev.bind h4 (ev_else (by omega) (ev_if rfl (Ev.now true))))
end Go.Proofs.YthbbdnicpbbnpaaDoor.Pure
