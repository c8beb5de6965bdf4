/- At every number and text drawn, what the program writes it reads again.  No condition but the statement's own. -/
import Derived.Test.YthbbdnicpbbnpaaMFnNumbersx4
import Derived.Test.YthbbdnicpbbnpaaCB
namespace Go.Proofs.Ythbbdnicpbbnpaa.Pure
open Go.RowKit Go.Proofs.Ythbbdnicpbbnpaa.MFnNumbers Go.Proofs.YthbbdnicpbbnpaaW.PrintWords Go.Proofs.YthbbdnicpbbnpaaW.PrintLast Go.Proofs.Ythbbdnicpbbnpaa.CB
/-- The eight lowest bits. -/
theorem and_low (x : Int) : 0 ≤ Go.bits .and .i64 x 255 ∧ Go.bits .and .i64 x 255 ≤ 255 := by
  have e : Go.bits .and .i64 x 255 = wrap64 (((BitVec.ofInt 64 x).toNat &&& 255 : Nat) : Int) := by
    simp only [Go.bits, wi64]
    show wrap64 (((BitVec.ofInt 64 x &&& BitVec.ofInt 64 255).toNat : Int)) = _
    rw [BitVec.toNat_and]
    rfl
  have h : (BitVec.ofInt 64 x).toNat &&& 255 ≤ 255 := Nat.and_le_right
  rw [e, w64 (by omega) (by omega)]
  omega
/-- One byte drawn. -/
theorem spec_byte (l : List Int) (i h : Int) (hl : l.length ≤ 140737488351232) (hi : 0 ≤ i) : ∃ v i' h', spec_l01Byte.f l i h = some (v, i', h') ∧ (0 ≤ v ∧ v ≤ 255) ∧ 0 ≤ i' := by
  unfold spec_l01Byte.f
  by_cases h1 : i < (l.length : Int)
  · rw [if_pos h1, if_pos hi]
    refine ⟨_, _, _, rfl, and_low _, ?_⟩
    rw [w64 (by omega) (by omega)]
    omega
  · rw [if_neg h1]
    exact ⟨_, _, _, rfl, and_low _, hi⟩
/-- A number below a bound drawn. -/
theorem spec_below (l : List Int) (i h n : Int) (hl : l.length ≤ 140737488351232) (hi : 0 ≤ i) (hn : 0 < n) : ∃ v i' h', spec_l01Below.f l i h n = some (v, i', h') ∧ (0 ≤ v ∧ v < n) ∧ 0 ≤ i' := by
  unfold spec_l01Below.f
  rw [if_neg (by omega)]
  by_cases h1 : n ≤ 256
  · rw [if_pos h1]
    obtain ⟨v, i', h', e, hv, hi'⟩ := spec_byte l i h hl hi
    rw [e]
    simp only [Option.bind_some]
    rw [if_neg (by omega), tmodN hv.1]
    exact ⟨_, _, _, rfl, ⟨Int.emod_nonneg _ (by omega), Int.emod_lt_of_pos _ hn⟩, hi'⟩
  · rw [if_neg h1]
    obtain ⟨v1, i1, h1, e1, r1, p1⟩ := spec_byte l i h hl hi
    obtain ⟨v2, i2, h2, e2, r2, p2⟩ := spec_byte l i1 h1 hl p1
    obtain ⟨v3, i3, h3, e3, r3, p3⟩ := spec_byte l i2 h2 hl p2
    obtain ⟨v4, i4, h4, e4, r4, p4⟩ := spec_byte l i3 h3 hl p3
    rw [e1]
    simp only [Option.bind_some]
    rw [e2]
    simp only [Option.bind_some]
    rw [e3]
    simp only [Option.bind_some]
    rw [e4]
    simp only [Option.bind_some]
    rw [if_neg (by omega), w64 (x := v1 * 16777216) (by omega) (by omega), w64 (x := v2 * 65536) (by omega) (by omega), w64 (x := v3 * 256) (by omega) (by omega), w64 (x := v1 * 16777216 + v2 * 65536) (by omega) (by omega), w64 (x := v1 * 16777216 + v2 * 65536 + v3 * 256) (by omega) (by omega), w64 (by omega) (by omega), tmodN (by omega)]
    exact ⟨_, _, _, rfl, ⟨Int.emod_nonneg _ (by omega), Int.emod_lt_of_pos _ hn⟩, p4⟩
theorem spec_new_l0 (l : List Int) (_hl : l.length ≤ 140737488351232) : ∀ (d i : Nat) (x : Int), 4000 - i = d → i ≤ 4000 → ∃ h, Ev (fun k => spec_l01New.l0 k l x (i : Int)) (l, 0, h) := by
  have hr : ∀ (k i : Nat) (x : Int), spec_l01New.l0 (k + 1) l x (i : Int) = if (i : Int) < (l.length : Int) then (if (i : Int) < 4000 then (if 0 ≤ (i : Int) then (spec_l01New.l0 k l (Go.bits .and .i64 (wrap64 ((wrap64 ((wrap64 (x * 131)) + (wrap64 (rd l i)))) + 7)) 1073741823) (wrap64 ((i : Int) + 1))) else (none)) else (some (l, 0, x))) else (some (l, 0, x)) := fun _ _ _ => rfl
  intro d
  induction d with
  | zero =>
    intro i x hd hi
    refine ⟨x, Ev.step (f := fun _ => some (l, 0, x)) (fun k => ?_) (Ev.now _)⟩
    rw [hr]
    split
    · rw [if_neg (by omega)]
    · rfl
  | succ d ih =>
    intro i x hd hi
    by_cases h1 : i < l.length
    · obtain ⟨h, e⟩ := ih (i + 1) (Go.bits .and .i64 (wrap64 ((wrap64 ((wrap64 (x * 131)) + (wrap64 (rd l i)))) + 7)) 1073741823) (by omega) (by omega)
      exact ⟨h, Ev.step (fun k => by rw [hr, if_pos (by omega), if_pos (by omega), if_pos (by omega), w64s (by omega)]) e⟩
    · exact ⟨x, Ev.step (f := fun _ => some (l, 0, x)) (fun k => by rw [hr, if_neg (by omega)]) (Ev.now _)⟩
/-- A source of draws made. -/
theorem spec_new (l : List Int) (hl : l.length ≤ 140737488351232) : ∃ h, Ev (fun k => spec_l01New.f k l) (l, 0, h) := spec_new_l0 l hl 4000 0 _ (by omega) (by omega)
theorem spec_once (l : List Int) (i h n : Int) (hl : l.length ≤ 140737488351232) (hi : 0 ≤ i) (hn : 0 < n) : ∃ (b : Bool) (i' h' : Int), spec_l01Once.f l i h n = some (b, i', h') ∧ 0 ≤ i' := by
  obtain ⟨v, i', h', e, _, p⟩ := spec_below l i h n hl hi hn
  refine ⟨v == 0, i', h', ?_, p⟩
  unfold spec_l01Once.f
  rw [e]
  rfl
/-- The value of numbers, the lowest first, to a base. -/
def valI (B : Int) : List Int → Int
  | [] => 0
  | x :: l => x + B * valI B l
theorem valI_append (B : Int) (l m : List Int) : valI B (l ++ m) = valI B l + B ^ l.length * valI B m := by
  induction l with
  | nil => simp [valI]
  | cons x l ih =>
    simp only [List.cons_append, valI, ih, List.length_cons, Int.pow_succ]
    grind
theorem valI_set (B : Int) (v : Int) : ∀ (l : List Int) (i : Nat), i < l.length → valI B (l.set i v) = valI B l + B ^ i * (v - l.getD i 0) := by
  intro l
  induction l with
  | nil => intro i h; simp at h
  | cons x l ih =>
    intro i h
    cases i with
    | zero => simp [valI]; omega
    | succ i =>
      have := ih i (by simpa using h)
      simp only [List.set_cons_succ, valI, this, List.getD_cons_succ, Int.pow_succ]
      grind
theorem valI_take_succ (B : Int) (l : List Int) (i : Nat) (h : i < l.length) : valI B (l.take (i + 1)) = valI B (l.take i) + B ^ i * l.getD i 0 := by
  rw [List.take_succ_eq_append_getElem h, valI_append]
  have : (l.take i).length = i := by simp; omega
  rw [this]
  simp [valI, List.getD_eq_getElem?_getD, List.getElem?_eq_getElem h]
theorem valI_zeros (B : Int) (n : Nat) : valI B (List.replicate n 0) = 0 := by
  induction n with
  | zero => rfl
  | succ n ih => rw [List.replicate_succ]; simp [valI, ih]
theorem valI_split (B : Int) (l : List Int) (i : Nat) (h : i ≤ l.length) : valI B l = valI B (l.take i) + B ^ i * valI B (l.drop i) := by
  conv => lhs; rw [← List.take_append_drop i l]
  rw [valI_append]
  have : (l.take i).length = i := by simp; omega
  rw [this]
theorem valI_range (B : Int) (hB : 0 < B) (l : List Int) (h : ∀ x ∈ l, 0 ≤ x ∧ x < B) : 0 ≤ valI B l ∧ valI B l < B ^ l.length := by
  induction l with
  | nil => simp [valI]
  | cons x l ih =>
    have h1 := h x (by simp)
    have h2 := ih (fun y hy => h y (by simp [hy]))
    simp only [valI, List.length_cons, Int.pow_succ]
    have h3 : 0 ≤ B * valI B l := Int.mul_nonneg (by omega) h2.1
    have h4 : B * valI B l ≤ B * (B ^ l.length - 1) := Int.mul_le_mul_of_nonneg_left (by omega) (by omega)
    have h5 : B * (B ^ l.length - 1) = B ^ l.length * B - B := by grind
    omega
theorem rd_nat (l : List Int) (i : Nat) : rd l (i : Int) = l.getD i 0 := by unfold rd; rw [Int.toNat_natCast]
theorem getD_mem (l : List Int) (i : Nat) (h : i < l.length) : l.getD i 0 ∈ l := by
  rw [List.getD_eq_getElem?_getD, List.getElem?_eq_getElem h]; simp
theorem getD_set_eq (l : List Int) (i : Nat) (v : Int) (h : i < l.length) : (l.set i v).getD i 0 = v := by
  simp [List.getD_eq_getElem?_getD, h]
theorem getD_set_ne (l : List Int) (i j : Nat) (v : Int) (h : i ≠ j) : (l.set i v).getD j 0 = l.getD j 0 := by
  simp [List.getD_eq_getElem?_getD, List.getElem?_set_ne h]
theorem set_last (m : Nat) (z d : Int) (T : List Int) : (List.replicate (m + 1) z ++ T).set m d = List.replicate m z ++ d :: T := by
  rw [List.replicate_succ', List.append_assoc, List.set_append_right _ _ (by simp)]
  simp
theorem getD_out (l : List Int) (i : Nat) (h : l.length ≤ i) : l.getD i 0 = 0 := by rw [List.getD_eq_getElem?_getD, List.getElem?_eq_none h]; rfl
theorem getD_zeros (n j : Nat) : (List.replicate n (0 : Int)).getD j 0 = 0 := by
  by_cases h : j < n
  · rw [List.getD_eq_getElem?_getD, List.getElem?_replicate]; simp [h]
  · rw [getD_out _ _ (by simp; omega)]
theorem spec_pick (l : List Int) (i h : Int) (L : List Int) (hl : l.length ≤ 140737488351232) (hi : 0 ≤ i) (h1 : 1 ≤ L.length) : ∃ v i' h', spec_l01PickInt.f l i h L = some (v, i', h') ∧ v ∈ L ∧ 0 ≤ i' := by
  obtain ⟨v, i', h', e, r, p⟩ := spec_below l i h (L.length : Int) hl hi (by omega)
  refine ⟨L.getD v.toNat 0, i', h', ?_, getD_mem L _ (by omega), p⟩
  unfold spec_l01PickInt.f
  rw [e]
  simp only [Option.bind_some]
  rw [if_pos r.1, if_pos r.2]
  rfl
theorem spec_drawVar (l : List Int) (hl : l.length ≤ 140737488351232) : ∃ z, Ev (fun k => spec_DrawVarText.f k l) z := by
  obtain ⟨h, e⟩ := spec_new l hl
  obtain ⟨c, i1, h1, e1, r1, p1⟩ := spec_below l 0 h 4 hl (by omega) (by omega)
  have key : ∃ z i' h', spec_l01Number.f l 0 h = some (z, i', h') := by
    unfold spec_l01Number.f
    rw [e1]
    simp only [Option.bind_some]
    by_cases c0 : c = 0
    · obtain ⟨v, i2, h2, e2, _, _⟩ := spec_pick l i1 h1 [(-1), 0, 127, 128, 16383, 16384, 1000000000, 1000000001, 9223372036854775807, (-9223372036854775808)] hl p1 (by simp)
      rw [if_pos c0, e2]
      exact ⟨_, _, _, rfl⟩
    · rw [if_neg c0]
      by_cases c1 : c = 1
      · obtain ⟨v, i2, h2, e2, _, _⟩ := spec_below l i1 h1 1000000000 hl p1 (by omega)
        rw [if_pos c1, e2]
        exact ⟨_, _, _, rfl⟩
      · obtain ⟨v, i2, h2, e2, _, _⟩ := spec_below l i1 h1 400 hl p1 (by omega)
        rw [if_neg c1, e2]
        exact ⟨_, _, _, rfl⟩
  obtain ⟨z, i', h', hz⟩ := key
  refine ⟨z, ?_⟩
  unfold spec_DrawVarText.f
  refine Ev.bind e ?_
  simp only [hz, Option.bind_some]
  exact Ev.now _
theorem spec_drawText_l0 (l : List Int) (hl : l.length ≤ 140737488351232) (n : Nat) (hn : n ≤ 5000) : ∀ (d j : Nat) (T : List Int) (i h : Int), n - j = d → j ≤ n → T.length = j → 0 ≤ i →
    ∃ s i' h', Ev (fun k => spec_l01Text.l0 k (n : Int) T (j : Int) l i h) (s, i', h') ∧ s.size = n ∧ 0 ≤ i' := by
  have hr : ∀ (k j : Nat) (T : List Int) (i h : Int), spec_l01Text.l0 (k + 1) (n : Int) T (j : Int) l i h = if (j : Int) < (n : Int) then ((spec_l01Byte.f l i h).bind fun bt178 => (if T.length < 140737488355328 then (spec_l01Text.l0 k (n : Int) (T ++ [(bt178.1) % 256]) (wrap64 ((j : Int) + 1)) l bt178.2.1 bt178.2.2) else (none))) else (some (strOfNums T, i, h)) := fun _ _ _ _ _ => rfl
  intro d
  induction d with
  | zero =>
    intro j T i h hd hj hT hi
    refine ⟨strOfNums T, i, h, Ev.step (f := fun _ => some (strOfNums T, i, h)) (fun k => ?_) (Ev.now _), by rw [str_size]; omega, hi⟩
    rw [hr, if_neg (by omega)]
  | succ d ih =>
    intro j T i h hd hj hT hi
    obtain ⟨v, i1, h1, e1, _, p1⟩ := spec_byte l i h hl hi
    obtain ⟨s, i', h', e, r⟩ := ih (j + 1) (T ++ [v % 256]) i1 h1 (by omega) (by omega) (by simp; omega) p1
    refine ⟨s, i', h', Ev.step (fun k => ?_) e, r⟩
    rw [hr, if_pos (by omega), e1]
    simp only [Option.bind_some]
    rw [if_pos (by omega), w64s (by omega)]
/-- A text of a length drawn. -/
theorem spec_drawText (l : List Int) (i h : Int) (n : Nat) (hl : l.length ≤ 140737488351232) (hi : 0 ≤ i) (hn : n ≤ 5000) : ∃ s i' h', Ev (fun k => spec_l01Text.f k l i h (n : Int)) (s, i', h') ∧ s.size = n ∧ 0 ≤ i' := by
  obtain ⟨s, i', h', e, r⟩ := spec_drawText_l0 l hl n hn n 0 [] i h (by omega) (by omega) rfl hi
  refine ⟨s, i', h', ?_, r⟩
  unfold spec_l01Text.f
  simp only [if_neg (show ¬ (n : Int) > 5000 by omega)]
  exact Ev.step (f := fun k => spec_l01Text.l0 k (n : Int) [] 0 l i h) (fun k => rfl) e
theorem spec_long_l0 (n : Nat) (v : Int) (hn : n ≤ 100000) : ∀ (d j : Nat) (T : List Int), n - j = d → j ≤ n → T.length = n →
    ∃ s, Ev (fun k => spec_l01Long.l0 k (n : Int) v T (j : Int)) s ∧ s.size = n := by
  have hr : ∀ (k j : Nat) (T : List Int), spec_l01Long.l0 (k + 1) (n : Int) v T (j : Int) = if (j : Int) < (n : Int) then (if 0 ≤ (j : Int) then (if (j : Int) < (T.length : Int) then (spec_l01Long.l0 k (n : Int) v (T.set (j : Int).toNat v) (wrap64 ((j : Int) + 1))) else (none)) else (none)) else (some (strOfNums T)) := fun _ _ _ => rfl
  intro d
  induction d with
  | zero =>
    intro j T hd hj hT
    exact ⟨strOfNums T, Ev.step (f := fun _ => some (strOfNums T)) (fun k => by rw [hr, if_neg (by omega)]) (Ev.now _), by rw [str_size]; omega⟩
  | succ d ih =>
    intro j T hd hj hT
    obtain ⟨s, e, r⟩ := ih (j + 1) (T.set j v) (by omega) (by omega) (by rw [List.length_set]; omega)
    exact ⟨s, Ev.step (fun k => by rw [hr, if_pos (by omega), if_pos (by omega), if_pos (by omega), w64s (by omega), Int.toNat_natCast]) e, r⟩
/-- A long text of one byte. -/
theorem spec_long (n : Nat) (v : Int) (hn : n ≤ 100000) : ∃ s, Ev (fun k => spec_l01Long.f k (n : Int) v) s ∧ s.size = n := by
  obtain ⟨s, e, r⟩ := spec_long_l0 n v hn n 0 (List.replicate n 0) (by omega) (by omega) (by simp)
  refine ⟨s, ?_, r⟩
  unfold spec_l01Long.f
  simp only [if_pos (show (0 : Int) ≤ (n : Int) by omega), Int.toNat_natCast, if_pos (show n ≤ 281474976710656 by omega)]
  exact e
theorem spec_drawHex (l : List Int) (hl : l.length ≤ 140737488351232) : ∃ s, Ev (fun k => spec_DrawHex.f k l) s ∧ s.size ≤ 12001 := by
  obtain ⟨h, e⟩ := spec_new l hl
  obtain ⟨b, i1, h1, e1, p1⟩ := spec_once l 0 h 60 hl (by omega) (by omega)
  unfold spec_DrawHex.f
  cases b with
  | true =>
    obtain ⟨v, i2, h2, e2, r2, p2⟩ := spec_below l i1 h1 2 hl p1 (by omega)
    obtain ⟨s, e3, r3⟩ := spec_long (12000 + v).toNat 200 (by omega)
    rw [show (((12000 + v).toNat : Nat) : Int) = 12000 + v by omega] at e3
    refine ⟨s, Ev.bind e ?_, by omega⟩
    simp only [e1, Option.bind_some, if_true, e2]
    rw [w64 (x := 12000 + v) (by omega) (by omega)]
    exact Ev.bind e3 (Ev.now _)
  | false =>
    obtain ⟨v, i2, h2, e2, r2, p2⟩ := spec_below l i1 h1 30 hl p1 (by omega)
    obtain ⟨s, i3, h3, e3, r3, p3⟩ := spec_drawText l i2 h2 v.toNat hl p2 (by omega)
    rw [show ((v.toNat : Nat) : Int) = v by omega] at e3
    refine ⟨s, Ev.bind e ?_, by omega⟩
    simp only [e1, Option.bind_some, Bool.false_eq_true, if_false, e2]
    exact Ev.bind e3 (Ev.now _)
/-- A number by sevens of bits, the lowest first. -/
def varL (n : Nat) : List Int := if n > 127 then ((n % 128 + 128 : Nat) : Int) :: varL (n / 128) else [(n : Int)]
termination_by n
decreasing_by omega
theorem varL_far (n : Nat) (h : n > 127) : varL n = ((n % 128 + 128 : Nat) : Int) :: varL (n / 128) := by rw [varL]; rw [if_pos h]
theorem varL_end (n : Nat) (h : ¬ n > 127) : varL n = [(n : Int)] := by rw [varL]; rw [if_neg h]
theorem varL_long : ∀ (d n : Nat), n < 128 ^ d → (varL n).length ≤ d + 1 := by
  intro d
  induction d with
  | zero => intro n h; rw [varL_end n (by omega)]; simp
  | succ d ih =>
    intro n h
    by_cases hb : n > 127
    · rw [varL_far n hb]; have := ih (n / 128) (by rw [Nat.pow_succ] at h; omega); simp; omega
    · rw [varL_end n hb]; simp
/-- Whole numbers as bytes, and back. -/
def byteOf (n : Int) : UInt8 := UInt8.ofNat n.toNat
def castL (l : List UInt8) : List Int := l.map fun b => (b.toNat : Int)
theorem str_data (l : List Int) : (strOfNums l).data.toList = l.map byteOf := by unfold strOfNums byteOf; simp
theorem byteOf_cast (l : List UInt8) : (castL l).map byteOf = l := by
  unfold castL
  rw [List.map_map]
  conv => rhs; rw [← List.map_id l]
  apply List.map_congr_left
  intro b _
  simp [byteOf]
theorem cast_byteOf : ∀ (l : List Int), (∀ x ∈ l, 0 ≤ x ∧ x < 256) → castL (l.map byteOf) = l := by
  intro l
  induction l with
  | nil => intro _; rfl
  | cons x l ih =>
    intro h
    have hx := h x (by simp)
    have := ih (fun y hy => h y (by simp [hy]))
    unfold castL at this ⊢
    rw [List.map_cons, List.map_cons, this]
    congr 1
    simp [byteOf]; omega
theorem str_cast (l : List UInt8) : (strOfNums (castL l)).data.toList = l := by rw [str_data, byteOf_cast]
theorem byteArray_ext {a b : ByteArray} (h : a.data.toList = b.data.toList) : a = b := by
  cases a; cases b; congr; exact Array.toList_inj.mp h
theorem str_castA (s : ByteArray) : strOfNums (castL s.data.toList) = s := byteArray_ext (str_cast _)
theorem append_data (a b : ByteArray) : (a ++ b).data.toList = a.data.toList ++ b.data.toList := by simp
theorem varL_tight : ∀ (d n : Nat), 1 ≤ d → n < 128 ^ d → (varL n).length ≤ d := by
  intro d
  induction d with
  | zero => intro n h; omega
  | succ d ih =>
    intro n h1 h
    by_cases hb : n > 127
    · rw [varL_far n hb]
      rw [Nat.pow_succ] at h
      have hd : 1 ≤ d := by
        rcases Nat.eq_zero_or_pos d with e | e
        · subst e; simp at h; omega
        · exact e
      have := ih (n / 128) hd (by omega)
      simp; omega
    · rw [varL_end n hb]; simp
theorem varL_range (n : Nat) : ∀ x ∈ varL n, 0 ≤ x ∧ x < 256 := by
  induction n using Nat.strongRecOn with
  | _ n ih =>
    by_cases hb : n > 127
    · rw [varL_far n hb]
      intro x hx
      rcases List.mem_cons.1 hx with e | e
      · omega
      · exact ih (n / 128) (by omega) x e
    · rw [varL_end n hb]
      intro x hx
      simp at hx; omega
/-- The number of bytes of sevens, the lowest first. -/
def valP : List UInt8 → Nat
  | [] => 0
  | b :: l => b.toNat % 128 + 128 * valP l
theorem valP_snoc (l : List UInt8) (b : UInt8) : valP (l ++ [b]) = valP l + b.toNat % 128 * 128 ^ l.length := by
  induction l with
  | nil => simp [valP]
  | cons c l ih =>
    simp only [List.cons_append, valP, ih, List.length_cons, Nat.pow_succ]
    rw [Nat.mul_add, ← Nat.mul_assoc, Nat.mul_comm 128 (b.toNat % 128), Nat.mul_assoc, Nat.mul_comm 128 (128 ^ l.length)]
    omega
theorem valP_lt (l : List UInt8) : valP l < 128 ^ l.length := by
  induction l with
  | nil => simp [valP]
  | cons c l ih => simp only [valP, List.length_cons, Nat.pow_succ]; omega
theorem canon_yes : ∀ (l : List UInt8) (b : UInt8), (∀ c ∈ l, 128 ≤ c.toNat) → b.toNat < 128 → (l = [] ∨ b.toNat ≠ 0) → varL (valP (l ++ [b])) = castL (l ++ [b]) := by
  intro l
  induction l with
  | nil =>
    intro b _ hb _
    have e : valP ([] ++ [b]) = b.toNat := by simp [valP]; omega
    rw [e, varL_end _ (by omega)]; rfl
  | cons c l ih =>
    intro b hl hb h0
    have hc := hl c (by simp)
    have hc2 := c.toNat_lt
    have h1 := ih b (fun d hd => hl d (by simp [hd])) hb (.inr (by rcases h0 with h | h; · cases h
                                                                   · exact h))
    have hpos : 1 ≤ valP (l ++ [b]) := by
      rw [valP_snoc]
      have h2 : b.toNat ≠ 0 := by rcases h0 with h | h; · cases h
                                  · exact h
      have : 1 ≤ b.toNat % 128 * 128 ^ l.length := Nat.mul_pos (by omega) (Nat.pow_pos (by omega))
      omega
    have e : valP (c :: l ++ [b]) = c.toNat % 128 + 128 * valP (l ++ [b]) := rfl
    rw [e, varL_far _ (by omega), show (c.toNat % 128 + 128 * valP (l ++ [b])) / 128 = valP (l ++ [b]) by omega, h1,
      show (c.toNat % 128 + 128 * valP (l ++ [b])) % 128 + 128 = c.toNat by omega]
    rfl
theorem canon_no (l : List UInt8) (b : UInt8) (hl : l ≠ []) (hb : b.toNat = 0) : varL (valP (l ++ [b])) ≠ castL (l ++ [b]) := by
  intro h
  have h1 : valP (l ++ [b]) = valP l := by rw [valP_snoc, hb]; simp
  have h2 := congrArg List.length h
  rw [h1] at h2
  have hpos : 1 ≤ l.length := by
    rcases l with _ | ⟨_, _⟩
    · exact absurd rfl hl
    · simp
  have := varL_tight l.length (valP l) hpos (valP_lt l)
  simp [castL] at h2; omega
/-- What VarText tells. -/
def varT (n : Int) : ByteArray × Bool := if 0 ≤ n ∧ n ≤ 1000000000 then (strOfNums (varL n.toNat), true) else (⟨#[]⟩, false)
theorem varT_in (n : Nat) (h : n ≤ 1000000000) : varT n = (strOfNums (varL n), true) := by unfold varT; rw [if_pos (by omega)]; rfl
theorem impl_in (a b c : Int) : impl_within.f a b c = some (decide (b ≤ a ∧ a ≤ c)) := by
  unfold impl_within.f
  by_cases h : a ≥ b
  · rw [if_pos h]; simp; omega
  · rw [if_neg h]; simp; omega
/-- The bytes of a text from a place on, so many. -/
def cutB (s : ByteArray) (a c : Nat) : List UInt8 := (s.data.toList.drop a).take c
theorem cutB_len (s : ByteArray) (a c : Nat) (h : a + c ≤ s.size) : (cutB s a c).length = c := by
  unfold cutB
  have : s.data.toList.length = s.size := by simp
  rw [List.length_take, List.length_drop]; omega
theorem cutB_snoc (s : ByteArray) (a c : Nat) (h : a + c < s.size) : ∃ b : UInt8, cutB s a (c + 1) = cutB s a c ++ [b] ∧ bt s ((a + c : Nat) : Int) = (b.toNat : Int) := by
  refine ⟨s.data.toList[a + c]'(by simpa using h), ?_, bt_list s (a + c) h⟩
  unfold cutB
  rw [List.take_succ_eq_append_getElem (by simp; omega)]
  simp
theorem extract_cut (s : ByteArray) (a c : Nat) : (s.extract a (a + c)).toList = cutB s a c := by
  rw [ByteArray.toList_eq]
  unfold cutB
  simp
/-- ReadVar from its round c on, with so many rounds left. -/
def rv (s : ByteArray) (a : Nat) : Nat → Nat → Nat → Int × Int × Bool
  | 0, _, _ => (0, 0, false)
  | d + 1, c, n =>
    if a + c < s.size then
      if bt s ((a + c : Nat) : Int) ≥ 128 then rv s a d (c + 1) (n + (bt s ((a + c : Nat) : Int)).toNat % 128 * 128 ^ c)
      else if n + (bt s ((a + c : Nat) : Int)).toNat % 128 * 128 ^ c > 1000000000 then (0, 0, false)
      else if bt s ((a + c : Nat) : Int) = 0 ∧ c > 0 then (0, 0, false)
      else (((n + (bt s ((a + c : Nat) : Int)).toNat % 128 * 128 ^ c : Nat) : Int), ((a + c + 1 : Nat) : Int), true)
    else (0, 0, false)
/-- What ReadVar tells. -/
def readVarT (s : ByteArray) (a : Int) : Int × Int × Bool := if 0 ≤ a ∧ a ≤ s.size then rv s a.toNat 5 0 0 else (0, 0, false)
theorem pow5 (c : Nat) (h : c < 5) : 128 ^ c ≤ 268435456 := by
  have := Nat.pow_le_pow_right (n := 128) (by omega) (show c ≤ 4 by omega)
  simpa using this
theorem and_seven (x : Nat) (hx : x < 256) : Go.bits .and .i64 (wrap64 (x : Int)) 127 = ((x % 128 : Nat) : Int) := by
  rw [w64n (by omega)]
  have h1 := and_i64 x 127 (by omega) (by omega)
  rw [show x &&& 127 = x % 128 from mask x 7] at h1
  exact h1
theorem shl_seven (x c : Nat) (hc : c < 5) : shl .i64 ((x % 128 : Nat) : Int) ((7 * c : Nat) : Int) = ((x % 128 * 128 ^ c : Nat) : Int) := by
  have hp := pow5 c hc
  have hm : x % 128 * 128 ^ c ≤ 127 * 268435456 := Nat.mul_le_mul (by omega) hp
  have hp2 : (2 : Nat) ^ (7 * c) = 128 ^ c := by rw [Nat.pow_mul]
  have hmin : min ((7 * c : Nat) : Int).toNat IntKind.i64.bits = 7 * c := by
    rw [Int.toNat_natCast]
    show min (7 * c) 64 = 7 * c
    omega
  unfold shl
  rw [hmin, wi64]
  have e : ((x % 128 : Nat) : Int) * 2 ^ (7 * c) = ((x % 128 * 128 ^ c : Nat) : Int) := by
    rw [← hp2, Int.natCast_mul, Int.natCast_pow]
    rfl
  rw [e]
  exact w64 (by omega) (by omega)
theorem or_seven (n x c : Nat) (hc : c < 5) (hn : n < 128 ^ c) : Go.bits .or .i64 (n : Int) ((x % 128 * 128 ^ c : Nat) : Int) = ((n + x % 128 * 128 ^ c : Nat) : Int) := by
  have hp := pow5 c hc
  have hm : x % 128 * 128 ^ c ≤ 127 * 268435456 := Nat.mul_le_mul (by omega) hp
  have hp2 : (2 : Nat) ^ (7 * c) = 128 ^ c := by rw [Nat.pow_mul]
  have h1 := or_i64 n (x % 128 * 128 ^ c) (by omega) (by omega)
  have h3 := join (x % 128) n (7 * c) (by rw [hp2]; exact hn)
  rw [hp2, Nat.mul_comm (128 ^ c)] at h3
  have h2 : n ||| (x % 128 * 128 ^ c) = n + x % 128 * 128 ^ c := by rw [Nat.or_comm, h3, Nat.add_comm]
  rw [h2] at h1
  exact h1
theorem impl_rv (s : ByteArray) (a : Nat) (ha : a ≤ s.size) (hs : s.size ≤ 140737488351232) : ∀ (d c n : Nat), 5 - c = d → c ≤ 5 → n < 128 ^ c → n < 34359738368 →
    Ev (fun k => impl_ReadVar.l0 k s (a : Int) (n : Int) ((a + c : Nat) : Int)) (rv s a d c n) := by
  have hj : ∀ (k : Nat) (x7 x8 : Int) (z : Bool), impl_ReadVar.j1 (k + 1) s (a : Int) x7 x8 z = if z = true then (if 0 ≤ x8 then (if x8 < (s.size : Int) then (if 0 ≤ (wrap64 (7 * (wrap64 (x8 - a)))) then (if (wrap64 (bt s x8)) > 127 then (impl_ReadVar.l0 k s a (Go.bits .or .i64 x7 (shl .i64 (Go.bits .and .i64 (wrap64 (bt s x8)) 127) (wrap64 (7 * (wrap64 (x8 - a)))))) (wrap64 (x8 + 1))) else (if (Go.bits .or .i64 x7 (shl .i64 (Go.bits .and .i64 (wrap64 (bt s x8)) 127) (wrap64 (7 * (wrap64 (x8 - a)))))) > 1000000000 then (some (0, 0, false)) else (if (wrap64 (bt s x8)) = 0 then (if x8 > a then (some (0, 0, false)) else (some (Go.bits .or .i64 x7 (shl .i64 (Go.bits .and .i64 (wrap64 (bt s x8)) 127) (wrap64 (7 * (wrap64 (x8 - a))))), wrap64 (x8 + 1), true))) else (some (Go.bits .or .i64 x7 (shl .i64 (Go.bits .and .i64 (wrap64 (bt s x8)) 127) (wrap64 (7 * (wrap64 (x8 - a))))), wrap64 (x8 + 1), true))))) else (none)) else (none)) else (none)) else (some (0, 0, false)) := fun _ _ _ _ => rfl
  intro d
  induction d with
  | zero =>
    intro c n hd hc hn hn2
    obtain rfl : c = 5 := by omega
    have e : wrap64 ((a : Int) + 5) = (a : Int) + 5 := w64 (by omega) (by omega)
    by_cases hlt : a + 5 < s.size
    · refine Ev.step (f := fun k => impl_ReadVar.j1 k s a n ((a + 5 : Nat) : Int) false) (fun k => ?_) (Ev.step (f := fun _ => some (0, 0, false)) (fun k => by rw [hj]; rfl) (Ev.now _))
      simp only [impl_ReadVar.l0]
      rw [if_pos (by omega), e, decide_eq_false (by omega)]
    · refine Ev.step (f := fun k => impl_ReadVar.j1 k s a n ((a + 5 : Nat) : Int) false) (fun k => ?_) (Ev.step (f := fun _ => some (0, 0, false)) (fun k => by rw [hj]; rfl) (Ev.now _))
      simp only [impl_ReadVar.l0]
      rw [if_neg (by omega)]
  | succ d ih =>
    intro c n hd hc hn hn2
    have e : wrap64 ((a : Int) + 5) = (a : Int) + 5 := w64 (by omega) (by omega)
    by_cases hlt : a + c < s.size
    · have hb := bt_range s ((a + c : Nat) : Int)
      have hp := pow5 c (by omega)
      refine Ev.step (f := fun k => impl_ReadVar.j1 k s a n ((a + c : Nat) : Int) true) (fun k => ?_) ?_
      · simp only [impl_ReadVar.l0]
        rw [if_pos (by omega), e, decide_eq_true (by omega)]
      · unfold rv
        rw [if_pos hlt]
        generalize hbt : bt s ((a + c : Nat) : Int) = x at hb ⊢
        obtain ⟨x, rfl⟩ : ∃ m : Nat, x = m := ⟨x.toNat, by omega⟩
        have hx256 : x < 256 := by omega
        clear hb
        have hc5 : c < 5 := by omega
        have e0 : wrap64 (((a + c : Nat) : Int) - a) = (c : Int) := by rw [w64 (by omega) (by omega)]; omega
        have e1 : wrap64 (7 * (c : Int)) = ((7 * c : Nat) : Int) := by rw [w64 (by omega) (by omega)]; omega
        have hac : a + c < 9223372036854775807 := by omega
        have p1 : (0 : Int) ≤ ((a + c : Nat) : Int) := by omega
        have p2 : ((a + c : Nat) : Int) < (s.size : Int) := by omega
        have p3 : (0 : Int) ≤ ((7 * c : Nat) : Int) := by omega
        have hx127 : x % 128 ≤ 127 := by omega
        have hr : ∀ k, impl_ReadVar.j1 (k + 1) s (a : Int) (n : Int) ((a + c : Nat) : Int) true = if (x : Int) > 127 then impl_ReadVar.l0 k s a ((n + x % 128 * 128 ^ c : Nat) : Int) ((a + (c + 1) : Nat) : Int) else (if ((n + x % 128 * 128 ^ c : Nat) : Int) > 1000000000 then some (0, 0, false) else if (x : Int) = 0 then (if ((a + c : Nat) : Int) > a then some (0, 0, false) else some (((n + x % 128 * 128 ^ c : Nat) : Int), ((a + c + 1 : Nat) : Int), true)) else some (((n + x % 128 * 128 ^ c : Nat) : Int), ((a + c + 1 : Nat) : Int), true)) := by
          intro k
          rw [hj, if_pos rfl, if_pos p1, if_pos p2, hbt, e0, e1, if_pos p3, and_seven x hx256, shl_seven x c hc5, or_seven n x c hc5 hn, w64s hac, w64n (Nat.lt_trans hx256 (by decide))]
          rfl
        rw [Int.toNat_natCast]
        have hm := Nat.mul_le_mul hx127 hp
        have hm2 : x % 128 * 128 ^ c ≤ 127 * 128 ^ c := Nat.mul_le_mul_right _ hx127
        have ih' := ih (c + 1) (n + x % 128 * 128 ^ c) (by omega) (by omega)
        rw [Nat.pow_succ] at ih'
        clear e0 e1 hbt hj ih
        generalize x % 128 * 128 ^ c = m at hr hm hm2 ih' ⊢
        generalize 128 ^ c = q at hn hp hm2 ih'
        have ih'' := ih' (by omega) (by omega)
        by_cases h1 : x ≥ 128
        · rw [if_pos (by omega)]
          exact Ev.step (fun k => by rw [hr k, if_pos (by omega)]) ih''
        · rw [if_neg (by omega)]
          by_cases h2 : n + m > 1000000000
          · rw [if_pos h2]
            exact Ev.step (f := fun _ => some (0, 0, false)) (fun k => by rw [hr k, if_neg (by omega), if_pos (by omega)]) (Ev.now _)
          · rw [if_neg h2]
            by_cases h3 : (x : Int) = 0
            · by_cases h4 : c > 0
              · rw [if_pos ⟨h3, h4⟩]
                exact Ev.step (f := fun _ => some (0, 0, false)) (fun k => by rw [hr k, if_neg (by omega), if_neg (by omega), if_pos h3, if_pos (by omega)]) (Ev.now _)
              · rw [if_neg (fun hh => h4 hh.2)]
                exact Ev.step (f := fun _ => some _) (fun k => by rw [hr k, if_neg (by omega), if_neg (by omega), if_pos h3, if_neg (by omega)]) (Ev.now _)
            · rw [if_neg (fun hh => h3 hh.1)]
              exact Ev.step (f := fun _ => some _) (fun k => by rw [hr k, if_neg (by omega), if_neg (by omega), if_neg h3]) (Ev.now _)
    · have : rv s a (d + 1) c n = (0, 0, false) := by unfold rv; rw [if_neg hlt]
      rw [this]
      refine Ev.step (f := fun k => impl_ReadVar.j1 k s a n ((a + c : Nat) : Int) false) (fun k => ?_) (Ev.step (f := fun _ => some (0, 0, false)) (fun k => by rw [hj]; rfl) (Ev.now _))
      simp only [impl_ReadVar.l0]
      rw [if_neg (by omega)]
theorem impl_readVar (s : ByteArray) (hs : s.size ≤ 140737488351232) (a : Int) : Ev (fun k => impl_ReadVar.f k s a) (readVarT s a) := by
  unfold impl_ReadVar.f readVarT
  rw [impl_in]
  simp only [Option.bind_some]
  by_cases h : 0 ≤ a ∧ a ≤ s.size
  · rw [if_pos h]
    obtain ⟨m, rfl⟩ : ∃ m : Nat, a = m := ⟨a.toNat, by omega⟩
    simp only [decide_eq_true h, if_true]
    exact impl_rv s m (by omega) hs 5 0 0 rfl (by omega) (by simp) (by omega)
  · rw [if_neg h]
    simp only [decide_eq_false h]
    exact Ev.now _
theorem spec_next (v x c : Nat) (hx : x < 256) (hc : c < 5) (hv : v < 128 ^ c) : wrap64 ((v : Int) + wrap64 (Int.tmod (wrap64 (x : Int)) 128 * ((128 ^ c : Nat) : Int))) = ((v + x % 128 * 128 ^ c : Nat) : Int) := by
  have hp := pow5 c hc
  have hx127 : x % 128 ≤ 127 := by omega
  have hm := Nat.mul_le_mul hx127 hp
  rw [w64n (x := x) (Nat.lt_trans hx (by decide)), tmodN (Int.natCast_nonneg _), show ((x : Int) % 128) * ((128 ^ c : Nat) : Int) = ((x % 128 * 128 ^ c : Nat) : Int) by rw [Int.natCast_mul]; rfl]
  generalize x % 128 * 128 ^ c = m at hm ⊢
  generalize 128 ^ c = q at hp hv
  rw [w64n (x := m) (by omega), ← Int.natCast_add, w64n (by omega)]
theorem spec_scale (c : Nat) (hc : c < 5) : wrap64 (((128 ^ c : Nat) : Int) * 128) = ((128 ^ (c + 1) : Nat) : Int) := by
  have hp := pow5 c hc
  rw [Nat.pow_succ]
  generalize 128 ^ c = q at hp ⊢
  rw [w64 (by omega) (by omega)]; rfl
/-- What ReadVar tells is in its bounds. -/
theorem rv_range (s : ByteArray) (a : Nat) : ∀ (d c n : Nat), 0 ≤ (rv s a d c n).1 ∧ (rv s a d c n).1 ≤ 1000000000 ∧ 0 ≤ (rv s a d c n).2.1 ∧ (rv s a d c n).2.1 ≤ s.size := by
  intro d
  induction d with
  | zero => intro c n; simp [rv]
  | succ d ih =>
    intro c n
    unfold rv
    split
    · split
      · exact ih _ _
      · split
        · simp
        · split
          · simp
          · simp only; omega
    · simp
theorem readVarT_range (s : ByteArray) (a : Int) : 0 ≤ (readVarT s a).1 ∧ (readVarT s a).1 ≤ 1000000000 ∧ 0 ≤ (readVarT s a).2.1 ∧ (readVarT s a).2.1 ≤ s.size := by
  unfold readVarT
  split
  · exact rv_range s _ _ _ _
  · simp
/-- The figures of a number, ahead of a text; nothing of 0. -/
def dgs (m : Nat) (s : ByteArray) : ByteArray := if m = 0 then s else dgs (m / 10) (strOfNums [48 + ((m % 10 : Nat) : Int)] ++ s)
termination_by m
decreasing_by omega
theorem dgs_zero (s : ByteArray) : dgs 0 s = s := by rw [dgs]; rfl
theorem dgs_pos (m : Nat) (s : ByteArray) (h : m ≠ 0) : dgs m s = dgs (m / 10) (strOfNums [48 + ((m % 10 : Nat) : Int)] ++ s) := by rw [dgs, if_neg h]
/-- What Decimal tells. -/
def decT (n : Int) : ByteArray := if n = 0 then ⟨#[48]⟩ else if n < 0 then ⟨#[45]⟩ ++ dgs n.natAbs ⟨#[]⟩ else dgs n.natAbs ⟨#[]⟩
def sgn (b : Bool) (s : ByteArray) : ByteArray := if b = true then ⟨#[45]⟩ ++ s else s
theorem decT_sgn (n : Int) (h : n ≠ 0) : decT n = sgn (decide (n < 0)) (dgs n.natAbs ⟨#[]⟩) := by
  unfold decT sgn; rw [if_neg h]; by_cases h1 : n < 0 <;> simp [h1]
theorem dgs_size : ∀ (d m : Nat) (s : ByteArray), m < 10 ^ d → (dgs m s).size ≤ s.size + d := by
  intro d
  induction d with
  | zero => intro m s h; obtain rfl : m = 0 := by omega
            rw [dgs_zero]; omega
  | succ d ih =>
    intro m s h
    by_cases h0 : m = 0
    · subst h0; rw [dgs_zero]; omega
    · rw [dgs_pos m s h0]
      have := ih (m / 10) (strOfNums [48 + ((m % 10 : Nat) : Int)] ++ s) (by rw [Nat.pow_succ] at h; omega)
      rw [ByteArray.size_append, str_size] at this
      simp only [List.length_cons, List.length_nil] at this; omega
theorem tdiv10 (b : Bool) (m : Nat) : Int.tdiv (if b then -(m : Int) else m) 10 = if b then -((m / 10 : Nat) : Int) else ((m / 10 : Nat) : Int) := by
  cases b with
  | false => simp only [Bool.false_eq_true, if_false]; rw [tdivN (Int.natCast_nonneg m)]; rfl
  | true => simp only [if_true]; rw [Int.neg_tdiv, tdivN (Int.natCast_nonneg m)]; rfl
theorem tmod10 (b : Bool) (m : Nat) : Int.tmod (if b then -(m : Int) else m) 10 = if b then -((m % 10 : Nat) : Int) else ((m % 10 : Nat) : Int) := by
  cases b with
  | false => simp only [Bool.false_eq_true, if_false]; rw [tmodN (Int.natCast_nonneg m)]; rfl
  | true => simp only [if_true]; rw [Int.neg_tmod, tmodN (Int.natCast_nonneg m)]; rfl
theorem signed_of (n : Int) : n = if decide (n < 0) then -(n.natAbs : Int) else (n.natAbs : Int) := by
  by_cases h : n < 0
  · rw [decide_eq_true h]; simp only [if_true]; omega
  · rw [decide_eq_false h]; simp only [Bool.false_eq_true, if_false]; omega
/-- From place i on a text has figures alone. -/
def digB (s : ByteArray) (i : Nat) : Bool := decide (∀ j : Nat, j < s.size → i ≤ j → 48 ≤ bt s j ∧ bt s j ≤ 57)
theorem digB_end (s : ByteArray) (i : Nat) (h : s.size ≤ i) : digB s i = true := by
  unfold digB; exact decide_eq_true (fun j h1 h2 => by omega)
theorem digB_no (s : ByteArray) (i : Nat) (h : i < s.size) (hb : bt s i < 48 ∨ bt s i > 57) : digB s i = false := by
  unfold digB
  refine decide_eq_false (fun H => ?_)
  have := H i h (Nat.le_refl _); omega
theorem digB_yes (s : ByteArray) (i : Nat) (hb : 48 ≤ bt s i ∧ bt s i ≤ 57) : digB s i = digB s (i + 1) := by
  unfold digB
  rw [decide_eq_decide]
  constructor
  · exact fun H j h1 h2 => H j h1 (by omega)
  · intro H j h1 h2
    rcases Nat.eq_or_lt_of_le h2 with e | e
    · subst e; exact hb
    · exact H j h1 e
/-- Right figures. -/
def figOk (s : ByteArray) : Bool := decide (1 ≤ s.size ∧ s.size ≤ 800) && digB s 0 && !(bt s 0 == 48 && decide (1 < s.size))
/-- The figures of a number as bytes; nothing of 0. The number of figures. -/
def dgL (m : Nat) : List UInt8 := (dgs m ⟨#[]⟩).data.toList
theorem dgs_split (m : Nat) : ∀ s : ByteArray, (dgs m s).data.toList = dgL m ++ s.data.toList := by
  induction m using Nat.strongRecOn with
  | _ m ih =>
    intro s
    by_cases h : m = 0
    · subst h; unfold dgL; rw [dgs_zero, dgs_zero]; rfl
    · unfold dgL
      rw [dgs_pos m s h, dgs_pos m ⟨#[]⟩ h, ih (m / 10) (by omega), ih (m / 10) (by omega), append_data, append_data, List.append_assoc]
      simp
theorem dgL_zero : dgL 0 = [] := by unfold dgL; rw [dgs_zero]
theorem dgL_pos (m : Nat) (h : m ≠ 0) : dgL m = dgL (m / 10) ++ [UInt8.ofNat (48 + m % 10)] := by
  unfold dgL
  rw [dgs_pos m _ h, dgs_split]
  unfold dgL
  congr 1
def valD : List UInt8 → Nat := List.foldl (fun n b => 10 * n + (b.toNat - 48)) 0
theorem valD_snoc (l : List UInt8) (b : UInt8) : valD (l ++ [b]) = 10 * valD l + (b.toNat - 48) := by unfold valD; rw [List.foldl_append]; rfl
def isDg (b : UInt8) : Prop := 48 ≤ b.toNat ∧ b.toNat ≤ 57
theorem snoc_cases {P : List UInt8 → Prop} (h0 : P []) (h1 : ∀ l b, P l → P (l ++ [b])) : ∀ l, P l := by
  intro l
  have : ∀ n (l : List UInt8), l.length = n → P l := by
    intro n
    induction n with
    | zero => intro l hl; rw [List.length_eq_zero_iff] at hl; rw [hl]; exact h0
    | succ n ih =>
      intro l hl
      have hne : l ≠ [] := by intro h; rw [h] at hl; simp at hl
      rw [← List.dropLast_concat_getLast hne]
      exact h1 _ _ (ih _ (by simp; omega))
  exact this l.length l rfl
theorem valD_lt : ∀ l : List UInt8, (∀ b ∈ l, isDg b) → valD l < 10 ^ l.length := by
  refine snoc_cases (fun _ => by simp [valD]) ?_
  intro l b ih h
  have h1 := ih (fun c hc => h c (by simp [hc]))
  have h2 := h b (by simp)
  rw [valD_snoc, List.length_append, List.length_singleton, Nat.pow_succ]
  unfold isDg at h2
  omega
/-- Figures without a nought ahead are those of their number. -/
theorem dgL_valD : ∀ l : List UInt8, (∀ b ∈ l, isDg b) → (∀ b, l.head? = some b → b.toNat ≠ 48) → dgL (valD l) = l := by
  refine snoc_cases (fun _ _ => by simp [valD, dgL_zero]) ?_
  intro l b ih h hh
  have h2 := h b (by simp)
  unfold isDg at h2
  have hpos : valD (l ++ [b]) ≠ 0 := by
    rw [valD_snoc]
    cases l with
    | nil => have := hh b (by simp); simp [valD]; omega
    | cons c l =>
      have hc := hh c (by simp)
      have hd := h c (by simp)
      unfold isDg at hd
      have hge : ∀ (l : List UInt8) (n : Nat), n ≤ List.foldl (fun n (b : UInt8) => 10 * n + (b.toNat - 48)) n l := by
        intro l
        induction l with
        | nil => intro n; exact Nat.le_refl n
        | cons d l ih => intro n; exact Nat.le_trans (show n ≤ 10 * n + (d.toNat - 48) by omega) (ih _)
      have := hge l (10 * 0 + (c.toNat - 48))
      unfold valD
      simp only [List.foldl_cons]
      omega
  rw [dgL_pos _ hpos, valD_snoc, show (10 * valD l + (b.toNat - 48)) / 10 = valD l by omega, show (10 * valD l + (b.toNat - 48)) % 10 = b.toNat - 48 by omega, show 48 + (b.toNat - 48) = b.toNat by omega]
  congr 1
  · refine ih (fun c hc => h c (by simp [hc])) ?_
    intro c hc
    cases l with
    | nil => simp at hc
    | cons d l => exact hh c (by simpa using hc)
  · simp
theorem dgL_len : ∀ (d m : Nat), m < 10 ^ d → (dgL m).length ≤ d := by
  intro d m h
  have := dgs_size d m ⟨#[]⟩ h
  have h2 : (dgL m).length = (dgs m ⟨#[]⟩).size := by unfold dgL; simp
  rw [h2]
  exact Nat.le_trans this (Nat.le_of_eq (Nat.zero_add d))
/-- What Decimal tells of a number that is not below 0, as bytes. -/
theorem decT_pos (n : Nat) (h : n ≠ 0) : (decT (n : Int)).data.toList = dgL n := by
  unfold decT dgL
  rw [if_neg (by omega), if_neg (by omega), Int.natAbs_natCast]
theorem digB_list (s : ByteArray) : digB s 0 = true ↔ ∀ b ∈ s.data.toList, isDg b := by
  unfold digB
  rw [decide_eq_true_iff]
  constructor
  · intro H b hb
    obtain ⟨j, hj, rfl⟩ := List.getElem_of_mem hb
    have := H j (by simpa using hj) (by omega)
    rw [bt_list s j (by simpa using hj)] at this
    unfold isDg; omega
  · intro H j hj _
    rw [bt_list s j hj]
    have := H _ (List.getElem_mem (l := s.data.toList) (by simpa using hj))
    unfold isDg at this; omega
/-- A text is the decimal of its value just when it is right. -/
theorem dec_of_val (s : ByteArray) (hd : ∀ b ∈ s.data.toList, isDg b) : (decT ((valD s.data.toList : Nat) : Int)).toList = s.toList ↔ (1 ≤ s.size ∧ ¬ (bt s 0 = 48 ∧ 1 < s.size)) := by
  rw [ByteArray.toList_eq, ByteArray.toList_eq]
  have hlen : s.data.toList.length = s.size := by simp
  rcases hl : s.data.toList with _ | ⟨b, l⟩
  · rw [hl] at hlen; simp at hlen
    constructor
    · intro h; exact absurd h (by simp [valD, decT])
    · intro h; omega
  · rw [hl] at hlen hd
    have hb : bt s 0 = (b.toNat : Int) := by
      have := bt_list s 0 (by simp at hlen; omega)
      simp only [hl, List.getElem_cons_zero] at this
      exact this
    simp only [List.length_cons] at hlen
    by_cases h0 : b.toNat = 48
    · by_cases h1 : l = []
      · subst h1
        have hv : valD [b] = 0 := by simp [valD, h0]
        rw [hv]
        constructor
        · intro _; simp at hlen; omega
        · intro _
          show [(48 : UInt8)] = [b]
          congr 1
          exact UInt8.toNat_inj.mp h0.symm
      · have hl1 : 1 ≤ l.length := by
          rcases l with _ | ⟨_, _⟩
          · exact absurd rfl h1
          · simp
        constructor
        · intro h
          exfalso
          have hv : valD (b :: l) = valD l := by unfold valD; simp [h0]
          rw [hv] at h
          have hlt := valD_lt l (fun c hc => hd c (by simp [hc]))
          by_cases hz : valD l = 0
          · rw [hz] at h
            have h4 : ([(48 : UInt8)] : List UInt8).length = (b :: l).length := congrArg List.length h
            simp only [List.length_cons, List.length_nil] at h4; omega
          · rw [decT_pos _ hz] at h
            have := congrArg List.length h
            have h3 := dgL_len _ _ hlt
            rw [List.length_cons] at this; omega
        · intro h; omega
    · have hb2 := hd b (by simp)
      unfold isDg at hb2
      have hv := dgL_valD (b :: l) hd (by intro c hc; simp at hc; rw [← hc]; exact h0)
      have hne : valD (b :: l) ≠ 0 := by intro h; rw [h, dgL_zero] at hv; simp at hv
      rw [decT_pos _ hne, hv]
      constructor
      · intro _; omega
      · intro _; rfl
/-- A number that is not below 0 in figures. -/
def decN (v : Nat) : ByteArray := decT (v : Int)
theorem decN_of (s : ByteArray) (hd : ∀ b ∈ s.data.toList, isDg b) (h1 : 1 ≤ s.size) (h2 : ¬ (bt s 0 = 48 ∧ 1 < s.size)) : decN (valD s.data.toList) = s := by
  have h := (dec_of_val s hd).2 ⟨h1, h2⟩
  rw [ByteArray.toList_eq, ByteArray.toList_eq] at h
  exact byteArray_ext h
theorem dgL_dg (m : Nat) : ∀ b ∈ dgL m, isDg b := by
  induction m using Nat.strongRecOn with
  | _ m ih =>
    by_cases h : m = 0
    · subst h; rw [dgL_zero]; simp
    · rw [dgL_pos m h]
      intro b hb
      rcases List.mem_append.1 hb with e | e
      · exact ih (m / 10) (by omega) b e
      · rw [List.mem_singleton.1 e]; unfold isDg
        have : (UInt8.ofNat (48 + m % 10)).toNat = 48 + m % 10 := by simp; omega
        rw [this]; omega
theorem valD_dgL (m : Nat) : valD (dgL m) = m := by
  induction m using Nat.strongRecOn with
  | _ m ih =>
    by_cases h : m = 0
    · subst h; rw [dgL_zero]; rfl
    · rw [dgL_pos m h, valD_snoc, ih (m / 10) (by omega)]
      have : (UInt8.ofNat (48 + m % 10)).toNat = 48 + m % 10 := by simp; omega
      rw [this]; omega
theorem dgL_head (m : Nat) : ∀ b, (dgL m).head? = some b → b.toNat ≠ 48 := by
  induction m using Nat.strongRecOn with
  | _ m ih =>
    by_cases h : m = 0
    · subst h; rw [dgL_zero]; simp
    · rw [dgL_pos m h]
      intro b hb
      by_cases h1 : m / 10 = 0
      · rw [h1, dgL_zero, List.nil_append] at hb
        rw [← (Option.some.inj hb : UInt8.ofNat (48 + m % 10) = b)]
        have : (UInt8.ofNat (48 + m % 10)).toNat = 48 + m % 10 := by simp; omega
        rw [this]; omega
      · have hne : dgL (m / 10) ≠ [] := by
          rw [dgL_pos _ h1]; simp
        have hih := ih (m / 10) (by omega) b
        cases hc : dgL (m / 10) with
        | nil => exact absurd hc hne
        | cons c t =>
          rw [hc] at hb hih
          exact hih hb
theorem decN_data (v : Nat) : (decN v).data.toList = if v = 0 then [48] else dgL v := by
  by_cases h : v = 0
  · subst h; rfl
  · rw [if_neg h]; exact decT_pos v h
theorem decN_dg (v : Nat) : ∀ b ∈ (decN v).data.toList, isDg b := by
  rw [decN_data]
  split
  · intro b hb; simp at hb; rw [hb]; exact ⟨by decide, by decide⟩
  · exact dgL_dg v
theorem valD_decN (v : Nat) : valD (decN v).data.toList = v := by
  rw [decN_data]
  split
  · rename_i h; rw [h]; rfl
  · exact valD_dgL v
theorem size_data (s : ByteArray) : s.data.toList.length = s.size := by simp
theorem decN_pos (v : Nat) : 1 ≤ (decN v).size := by
  rw [← size_data, decN_data]
  split
  · simp
  · rename_i h; rw [dgL_pos v h]; simp
theorem decN_lead (v : Nat) : ¬ (bt (decN v) 0 = 48 ∧ 1 < (decN v).size) := by
  intro ⟨h1, h2⟩
  have hp := decN_pos v
  have hb := bt_list (decN v) 0 (by omega)
  rw [← size_data] at h2
  rw [decN_data] at h2
  by_cases h : v = 0
  · rw [if_pos h] at h2; simp at h2
  · have hd := decN_data v
    rw [if_neg h] at hd
    have hh := dgL_head v
    rw [← hd] at hh
    refine hh ((decN v).data.toList[0]'(by rw [size_data]; omega)) (by rw [List.head?_eq_getElem?, List.getElem?_eq_getElem]) ?_
    have h3 : (((decN v).data.toList[0]'(by rw [size_data]; omega)).toNat : Int) = 48 := by rw [← h1]; exact hb.symm
    omega
theorem decN_size (v d : Nat) (hd : 1 ≤ d) : (decN v).size ≤ d ↔ v < 10 ^ d := by
  constructor
  · intro h
    have h1 := valD_lt _ (decN_dg v)
    rw [valD_decN, size_data] at h1
    exact Nat.lt_of_lt_of_le h1 (Nat.pow_le_pow_right (by omega) h)
  · intro h
    rw [← size_data, decN_data]
    split
    · simpa using hd
    · exact dgL_len d v h
/-- Figures that fit. -/
def fitsT (v : Nat) : ByteArray × Bool := if (decN v).size ≤ 800 then (decN v, true) else (⟨#[]⟩, false)
theorem figOk_decN (v : Nat) : figOk (decN v) = decide ((decN v).size ≤ 800) := by
  have h1 := decN_pos v
  have h2 := (digB_list (decN v)).2 (decN_dg v)
  have h3 := decN_lead v
  unfold figOk
  rw [h2]
  by_cases h : (decN v).size ≤ 800
  · rw [decide_eq_true (show 1 ≤ (decN v).size ∧ (decN v).size ≤ 800 from ⟨h1, h⟩), decide_eq_true h]
    by_cases h4 : bt (decN v) 0 = 48
    · have : ¬ 1 < (decN v).size := fun h5 => h3 ⟨h4, h5⟩
      simp [this]
    · simp [h4]
  · rw [decide_eq_false (show ¬ (1 ≤ (decN v).size ∧ (decN v).size ≤ 800) from fun hh => h hh.2), decide_eq_false h]; rfl
theorem figOk_parts (s : ByteArray) (h : figOk s = true) : 1 ≤ s.size ∧ s.size ≤ 800 ∧ (∀ b ∈ s.data.toList, isDg b) ∧ ¬ (bt s 0 = 48 ∧ 1 < s.size) := by
  unfold figOk at h
  simp at h
  obtain ⟨⟨h1, h2⟩, h3⟩ := h
  refine ⟨h1.1, h1.2, (digB_list s).1 h2, ?_⟩
  intro ⟨h4, h5⟩
  rcases h3 with h | h
  · exact h h4
  · omega
theorem figOk_dec (s : ByteArray) (h : figOk s = true) : decN (valD s.data.toList) = s := by
  obtain ⟨h1, h2, h3, h4⟩ := figOk_parts s h
  exact decN_of s h3 h1 h4
/-- The value of figures as bytes, the highest first. -/
def vM : List Int → Int
  | [] => 0
  | c :: T => (c - 48) * 10 ^ T.length + vM T
def dgI (T : List Int) : Prop := ∀ c ∈ T, 48 ≤ c ∧ c ≤ 57
theorem valD_foldl (l : List UInt8) : ∀ n : Nat, List.foldl (fun n (b : UInt8) => 10 * n + (b.toNat - 48)) n l = n * 10 ^ l.length + valD l := by
  induction l with
  | nil => intro n; simp [valD]
  | cons b l ih =>
    intro n
    unfold valD
    rw [List.foldl_cons, List.foldl_cons, ih, ih, List.length_cons, Nat.pow_succ, Nat.mul_zero, Nat.zero_add]
    rw [Nat.add_mul, Nat.mul_comm 10 n, Nat.mul_assoc n 10, Nat.mul_comm 10 (10 ^ l.length)]
    omega
theorem valD_cons (b : UInt8) (l : List UInt8) : valD (b :: l) = (b.toNat - 48) * 10 ^ l.length + valD l := by
  have := valD_foldl l (10 * 0 + (b.toNat - 48))
  unfold valD
  rw [List.foldl_cons, this, Nat.mul_zero, Nat.zero_add]; rfl
theorem byteOf_toNat (c : Int) (h : 0 ≤ c ∧ c < 256) : ((byteOf c).toNat : Int) = c := by
  unfold byteOf
  have : (UInt8.ofNat c.toNat).toNat = c.toNat := by simp; omega
  rw [this]; omega
theorem vM_valD (T : List Int) (h : dgI T) : ((valD (T.map byteOf) : Nat) : Int) = vM T := by
  induction T with
  | nil => rfl
  | cons c T ih =>
    have hc := h c (by simp)
    have hb := byteOf_toNat c (by omega)
    have := ih (fun d hd => h d (by simp [hd]))
    rw [List.map_cons, valD_cons, List.length_map]
    unfold vM
    rw [← this, Int.natCast_add, Int.natCast_mul, Int.natCast_pow]
    rw [show (((byteOf c).toNat - 48 : Nat) : Int) = c - 48 by omega]
    rfl
theorem map_dg (T : List Int) (h : dgI T) : ∀ b ∈ T.map byteOf, isDg b := by
  intro b hb
  obtain ⟨c, hc, rfl⟩ := List.mem_map.1 hb
  have h1 := h c hc
  have h2 := byteOf_toNat c (by omega)
  unfold isDg; omega
/-- A text of figures, the highest first, without a nought ahead. -/
theorem text_decN (T : List Int) (h : dgI T) (h1 : 1 ≤ T.length) (h2 : ∀ c, T.head? = some c → 1 < T.length → c ≠ 48) : strOfNums T = decN (vM T).toNat := by
  have hd := str_data T
  have hsz : (strOfNums T).size = T.length := str_size T
  have hdg := map_dg T h
  rw [← hd] at hdg
  have := decN_of (strOfNums T) hdg (by omega) (by
    intro ⟨h3, h4⟩
    cases T with
    | nil => simp at h1
    | cons c T =>
      have h5 := bt_list (strOfNums (c :: T)) 0 (by omega)
      have h6 : (strOfNums (c :: T)).data.toList[0]'(by rw [size_data]; omega) = byteOf c := by simp only [hd]; rfl
      rw [h6, byteOf_toNat c (by have := h c (by simp); omega)] at h5
      have h7 : bt (strOfNums (c :: T)) ((0 : Nat) : Int) = 48 := h3
      rw [h7] at h5
      exact h2 c rfl (by omega) h5.symm)
  rw [← this, hd, ← vM_valD T h, Int.toNat_natCast]
/-- A number by sevens of bits is read again. -/
theorem rv_read (s : ByteArray) (a : Nat) : ∀ (d c m n : Nat), m < 128 ^ d → n + m * 128 ^ c ≤ 1000000000 → (c > 0 → m ≠ 0) → (∀ i, i < (varL m).length → bt s ((a + c + i : Nat) : Int) = (varL m).getD i 0) → a + c + (varL m).length ≤ s.size → 1 ≤ d →
    rv s a d c n = (((n + m * 128 ^ c : Nat) : Int), ((a + c + (varL m).length : Nat) : Int), true) := by
  intro d
  induction d with
  | zero => intro c m n _ _ _ _ _ h; omega
  | succ d ih =>
    intro c m n hm hv hz hb hs _
    by_cases h1 : m > 127
    · have hL := varL_far m h1
      rw [hL] at hb hs ⊢
      have h0 := hb 0 (by simp)
      simp only [Nat.add_zero, List.getD_cons_zero] at h0
      simp only [List.length_cons] at hs
      have hd : 1 ≤ d := by
        rcases Nat.eq_zero_or_pos d with h | h
        · subst h; omega
        · exact h
      have e1 : (n + m % 128 * 128 ^ c) + m / 128 * 128 ^ (c + 1) = n + m * 128 ^ c := by
        rw [Nat.pow_succ]
        generalize 128 ^ c = q
        have h2 : m * q = (128 * (m / 128) + m % 128) * q := by rw [Nat.div_add_mod]
        rw [h2, Nat.add_mul, Nat.mul_assoc, Nat.mul_comm q 128, Nat.mul_left_comm 128]
        omega
      have h' := ih (c + 1) (m / 128) (n + m % 128 * 128 ^ c) (by rw [Nat.pow_succ] at hm; omega) (by rw [e1]; exact hv) (by omega) (by
        intro i hi
        have := hb (i + 1) (by simp only [List.length_cons]; omega)
        simp only [List.getD_cons_succ] at this
        rw [← this, show a + (c + 1) + i = a + c + (i + 1) by omega]) (by omega) hd
      rw [e1] at h'
      unfold rv
      rw [if_pos (by omega), h0, if_pos (by omega), show (((m % 128 + 128 : Nat) : Int)).toNat % 128 = m % 128 by omega, h']
      simp only [List.length_cons]
      rw [show a + (c + 1) + (varL (m / 128)).length = a + c + ((varL (m / 128)).length + 1) by omega]
    · have hL := varL_end m h1
      rw [hL] at hb hs ⊢
      have h0 := hb 0 (by simp)
      simp only [Nat.add_zero, List.getD_cons_zero] at h0
      simp only [List.length_cons, List.length_nil] at hs ⊢
      have e1 : ((m : Int)).toNat % 128 = m := by omega
      unfold rv
      rw [if_pos (by omega), h0, if_neg (by omega), e1, if_neg (by omega), if_neg (by omega)]
theorem bt_mid (s : ByteArray) (P Q : List UInt8) (L : List Int) (hs : s.data.toList = P ++ (L.map byteOf ++ Q)) (hL : ∀ x ∈ L, 0 ≤ x ∧ x < 256) (i : Nat) (hi : i < L.length) : bt s ((P.length + i : Nat) : Int) = L.getD i 0 := by
  have hz : s.size = P.length + (L.length + Q.length) := by
    have h1 : s.data.toList.length = s.size := by simp
    rw [← h1, hs]; simp
  rw [bt_list s (P.length + i) (by omega)]
  have h2 : s.data.toList[P.length + i]'(by simp; omega) = byteOf (L.getD i 0) := by
    simp only [hs]
    rw [List.getElem_append_right (by omega), List.getElem_append_left (by simp; omega), List.getElem_map]
    rw [List.getD_eq_getElem?_getD, List.getElem?_eq_getElem (by omega)]
    simp
  rw [h2]
  have hm : L.getD i 0 ∈ L := by rw [List.getD_eq_getElem?_getD, List.getElem?_eq_getElem hi]; simp
  exact byteOf_toNat _ (hL _ hm)
/-- A number's bytes between two texts, read again. -/
theorem readVar_mid (X Y : ByteArray) (n : Nat) (hn : n ≤ 1000000000) : readVarT (X ++ strOfNums (varL n) ++ Y) (X.size : Int) = ((n : Int), ((X.size + (varL n).length : Nat) : Int), true) := by
  have hz : (X ++ strOfNums (varL n) ++ Y).size = X.size + (varL n).length + Y.size := by rw [ByteArray.size_append, ByteArray.size_append, str_size]
  have hdat : (X ++ strOfNums (varL n) ++ Y).data.toList = X.data.toList ++ ((varL n).map byteOf ++ Y.data.toList) := by
    rw [← str_data]; simp
  have hXl : X.data.toList.length = X.size := by simp
  have h := rv_read (X ++ strOfNums (varL n) ++ Y) X.size 5 0 n 0 (Nat.lt_of_le_of_lt hn (by decide)) (by omega) (by omega) (by
    intro i hi
    have := bt_mid _ X.data.toList Y.data.toList (varL n) hdat (varL_range n) i hi
    rw [hXl] at this
    exact this) (by omega) (by omega)
  unfold readVarT
  rw [if_pos ⟨by omega, by omega⟩, Int.toNat_natCast, h]
  simp
/-- What ReadShort tells. -/
def readShortT (s : ByteArray) (a : Int) : ByteArray × Int × Bool :=
  if (readVarT s a).2.2 = true then
    if (readVarT s a).1 > 12000 then (⟨#[]⟩, 0, false)
    else if (readVarT s a).1 > (s.size : Int) - (readVarT s a).2.1 then (⟨#[]⟩, 0, false)
    else (s.extract (readVarT s a).2.1.toNat ((readVarT s a).2.1 + (readVarT s a).1).toNat, (readVarT s a).2.1 + (readVarT s a).1, true)
  else (⟨#[]⟩, 0, false)
theorem short_tail (s : ByteArray) (hs : s.size ≤ 140737488351232) (r : Int × Int × Bool) (h : 0 ≤ r.1 ∧ r.1 ≤ 1000000000 ∧ 0 ≤ r.2.1 ∧ r.2.1 ≤ s.size) :
    (if r.2.2 = true then (if r.1 > 12000 then (some ((⟨#[]⟩ : ByteArray), (0 : Int), false)) else (if r.1 > (wrap64 ((s.size : Int) - r.2.1)) then (some ((⟨#[]⟩ : ByteArray), 0, false)) else (if 0 ≤ r.2.1 then (if r.2.1 ≤ (wrap64 (r.2.1 + r.1)) then (if (wrap64 (r.2.1 + r.1)) ≤ (s.size : Int) then (some (s.extract (r.2.1 : Int).toNat ((wrap64 (r.2.1 + r.1)) : Int).toNat, wrap64 (r.2.1 + r.1), true)) else (none)) else (none)) else (none)))) else (some ((⟨#[]⟩ : ByteArray), 0, false))) =
    some (if r.2.2 = true then
    if r.1 > 12000 then ((⟨#[]⟩ : ByteArray), (0 : Int), false)
    else if r.1 > (s.size : Int) - r.2.1 then (⟨#[]⟩, 0, false)
    else (s.extract r.2.1.toNat (r.2.1 + r.1).toNat, r.2.1 + r.1, true)
  else (⟨#[]⟩, 0, false)) := by
  obtain ⟨h1, h2, h3, h4⟩ := h
  rw [w64 (x := (s.size : Int) - r.2.1) (by omega) (by omega), w64 (x := r.2.1 + r.1) (by omega) (by omega)]
  by_cases c1 : r.2.2 = true
  · rw [if_pos c1, if_pos c1]
    by_cases c2 : r.1 > 12000
    · rw [if_pos c2, if_pos c2]
    · rw [if_neg c2, if_neg c2]
      by_cases c3 : r.1 > (s.size : Int) - r.2.1
      · rw [if_pos c3, if_pos c3]
      · rw [if_neg c3, if_neg c3, if_pos h3, if_pos (by omega), if_pos (by omega)]
  · rw [if_neg c1, if_neg c1]
theorem impl_readShort (s : ByteArray) (hs : s.size ≤ 140737488351232) (a : Int) : Ev (fun k => impl_ReadShort.f k s a) (readShortT s a) := by
  unfold impl_ReadShort.f readShortT
  refine Ev.bind (impl_readVar s hs a) ?_
  rw [short_tail s hs _ (readVarT_range s a)]
  exact Ev.now _
theorem impl_var_l0 : ∀ (d n : Nat) (acc : List Int), n < 128 ^ d → n < 9223372036854775808 → acc.length + d ≤ 1000 → Ev (fun k => impl_VarText.l0 k (n : Int) acc) (strOfNums (acc ++ varL n), true) := by
  intro d
  induction d with
  | zero =>
    intro n acc h hn ha
    rw [varL_end n (by omega)]
    exact Ev.step (f := fun _ => some (strOfNums (acc ++ [(n : Int)]), true)) (fun k => by simp only [impl_VarText.l0]; rw [if_neg (by omega), if_pos (by omega), show (n : Int) % 256 = n by omega]) (Ev.now _)
  | succ d ih =>
    intro n acc h hn ha
    by_cases hb : n > 127
    · rw [varL_far n hb]
      have h' := ih (n / 128) (acc ++ [((n % 128 + 128 : Nat) : Int)]) (by rw [Nat.pow_succ] at h; omega) (by omega) (by simp; omega)
      rw [List.append_assoc] at h'
      have e1 : Go.bits .and .i64 (n : Int) 127 = ((n % 128 : Nat) : Int) := by
        have h1 := and_i64 n 127 hn (by omega)
        rw [show n &&& 127 = n % 128 from mask n 7] at h1
        exact h1
      have e2 : Go.bits .or .i64 ((n % 128 : Nat) : Int) 128 = ((n % 128 + 128 : Nat) : Int) := by
        have h1 := or_i64 (n % 128) 128 (by omega) (by omega)
        have h2 := join 1 (n % 128) 7 (by omega)
        rw [Nat.or_comm, show (2 ^ 7 * 1 : Nat) = 128 from rfl] at h2
        rw [h2, Nat.add_comm] at h1
        exact h1
      exact Ev.step (fun k => by
        simp only [impl_VarText.l0]
        rw [if_pos (by omega), if_pos (by omega), e1, e2,
          show ((n % 128 + 128 : Nat) : Int) % 256 = ((n % 128 + 128 : Nat) : Int) by omega, show (n : Int) / 128 = ((n / 128 : Nat) : Int) by omega]) h'
    · rw [varL_end n hb]
      exact Ev.step (f := fun _ => some (strOfNums (acc ++ [(n : Int)]), true)) (fun k => by simp only [impl_VarText.l0]; rw [if_neg (by omega), if_pos (by omega), show (n : Int) % 256 = n by omega]) (Ev.now _)
theorem impl_varText (n : Int) : Ev (fun k => impl_VarText.f k n) (varT n) := by
  unfold impl_VarText.f
  rw [impl_in]
  simp only [Option.bind_some]
  by_cases h : 0 ≤ n ∧ n ≤ 1000000000
  · obtain ⟨m, rfl⟩ : ∃ m : Nat, n = m := ⟨n.toNat, by omega⟩
    rw [varT_in m (by omega)]
    simp only [decide_eq_true h, if_true]
    exact impl_var_l0 5 m [] (by omega) (by omega) (by simp)
  · have e : varT n = (⟨#[]⟩, false) := by unfold varT; rw [if_neg h]
    rw [e]
    simp only [decide_eq_false h]
    exact Ev.now _
/-- What ShortText tells. -/
def shortT (s : ByteArray) : ByteArray × Bool := if s.size ≤ 12000 then (strOfNums (varL s.size) ++ s, true) else (⟨#[]⟩, false)
theorem varL_small (n : Nat) (h : n ≤ 12000) : (strOfNums (varL n)).size ≤ 3 := by
  rw [str_size]; exact varL_long 2 n (by omega)
theorem impl_short (s : ByteArray) : Ev (fun k => impl_ShortText.f k s) (shortT s) := by
  unfold impl_ShortText.f
  by_cases h : s.size ≤ 12000
  · have e : shortT s = (strOfNums (varL s.size) ++ s, true) := by unfold shortT; rw [if_pos h]
    rw [e]
    simp only [if_neg (show ¬ (s.size : Int) > 12000 by omega)]
    have hv := impl_varText (s.size : Int)
    rw [varT_in s.size (by omega)] at hv
    refine Ev.bind hv ?_
    have := varL_small s.size h
    simp only [if_pos (show (strOfNums (varL s.size)).size + s.size ≤ 9223372036854775807 by omega)]
    exact Ev.now _
  · have e : shortT s = (⟨#[]⟩, false) := by unfold shortT; rw [if_neg h]
    rw [e]
    simp only [if_pos (show (s.size : Int) > 12000 by omega)]
    exact Ev.now _
/-- The figures of a number, a nought of 0. -/
def dgz (m : Nat) (s : ByteArray) : ByteArray := if m = 0 then strOfNums [48] ++ s else dgs m s
theorem dgz_small (m : Nat) (s : ByteArray) (h : m < 10) : dgz m s = strOfNums [48 + (m : Int)] ++ s := by
  unfold dgz
  by_cases h0 : m = 0
  · subst h0; rfl
  · rw [if_neg h0, dgs_pos m s h0, show m / 10 = 0 by omega, dgs_zero, show m % 10 = m by omega]
theorem dgz_far (m : Nat) (s : ByteArray) (h : ¬ m < 10) : dgz m s = dgz (m / 10) (strOfNums [48 + ((m % 10 : Nat) : Int)] ++ s) := by
  unfold dgz
  rw [if_neg (by omega), if_neg (by omega), dgs_pos m s (by omega)]
theorem impl_dec_l0 (n : Int) (b : Bool) : ∀ (d m : Nat) (s : ByteArray), m < 10 ^ (d + 1) → m ≤ 9223372036854775808 → s.size + d ≤ 1000 →
    Ev (fun k => impl_Decimal.l0 k n s (if b then -(m : Int) else m)) (sgn (decide (n < 0)) (dgz m s)) := by
  have hr : ∀ (m : Nat) (s : ByteArray) (k : Nat), m ≤ 9223372036854775808 → s.size ≤ 1000 → impl_Decimal.l0 (k + 1) n s (if b then -(m : Int) else m) =
      if m < 10 then some (sgn (decide (n < 0)) (dgz m s)) else impl_Decimal.l0 k n (strOfNums [48 + ((m % 10 : Nat) : Int)] ++ s) (if b then -((m / 10 : Nat) : Int) else ((m / 10 : Nat) : Int)) := by
    intro m s k hm hs
    simp only [impl_Decimal.l0]
    rw [tdiv10 b m, tmod10 b m]
    have hw : wrap64 (if b then -((m / 10 : Nat) : Int) else ((m / 10 : Nat) : Int)) = if b then -((m / 10 : Nat) : Int) else ((m / 10 : Nat) : Int) := by
      apply w64 <;> (cases b <;> simp <;> omega)
    rw [hw, impl_in]
    have hin : decide ((-9 : Int) ≤ (if b then -(m : Int) else m) ∧ (if b then -(m : Int) else m) ≤ 9) = decide (m < 10) := by
      rw [decide_eq_decide]; cases b <;> simp <;> omega
    have htail : ∀ y : ByteArray, y.size ≤ 10 → y = strOfNums [48 + ((m % 10 : Nat) : Int)] → (if decide (m < 10) = true then (if n < 0 then (if 1 + (y ++ s).size ≤ 9223372036854775807 then some ((⟨#[45]⟩ : ByteArray) ++ (y ++ s)) else none) else some (y ++ s)) else impl_Decimal.l0 k n (y ++ s) (if b then -((m / 10 : Nat) : Int) else ((m / 10 : Nat) : Int))) = if m < 10 then some (sgn (decide (n < 0)) (dgz m s)) else impl_Decimal.l0 k n (strOfNums [48 + ((m % 10 : Nat) : Int)] ++ s) (if b then -((m / 10 : Nat) : Int) else ((m / 10 : Nat) : Int)) := by
      intro y hy hyy
      by_cases h1 : m < 10
      · rw [if_pos (decide_eq_true h1), if_pos h1, dgz_small m s h1]
        rw [show m % 10 = m by omega] at hyy
        rw [← hyy]
        unfold sgn
        by_cases h2 : n < 0
        · rw [if_pos h2, if_pos (by rw [ByteArray.size_append]; omega), if_pos (decide_eq_true h2)]
        · rw [if_neg h2, if_neg (by simpa using h2)]
      · rw [if_neg (by simpa using h1), if_neg h1, hyy]
    by_cases hd : b = true ∧ m % 10 ≠ 0
    · obtain ⟨rfl, hd⟩ := hd
      simp only [if_true] at hin htail ⊢
      rw [if_pos (by omega), w64 (x := - -((m % 10 : Nat) : Int)) (by omega) (by omega), Int.neg_neg, w64 (by omega) (by omega), show (48 + ((m % 10 : Nat) : Int)) % 256 = 48 + ((m % 10 : Nat) : Int) by omega]
      simp only [Option.bind_some]
      rw [if_pos (by rw [str_size]; simp; omega), hin]
      exact htail _ (by rw [str_size]; simp) rfl
    · have e : (if b then -((m % 10 : Nat) : Int) else ((m % 10 : Nat) : Int)) = ((m % 10 : Nat) : Int) := by
        cases b
        · rfl
        · simp only [if_true]; have : m % 10 = 0 := by simp at hd; exact hd
          rw [this]; rfl
      rw [e, if_neg (by omega), w64 (by omega) (by omega), show (48 + ((m % 10 : Nat) : Int)) % 256 = 48 + ((m % 10 : Nat) : Int) by omega]
      simp only [Option.bind_some]
      rw [if_pos (by rw [str_size]; simp; omega), hin]
      exact htail _ (by rw [str_size]; simp) rfl
  intro d
  induction d with
  | zero =>
    intro m s h hm hs
    exact Ev.step (f := fun _ => some (sgn (decide (n < 0)) (dgz m s))) (fun k => by rw [hr m s k hm (by omega), if_pos (by simpa using h)]) (Ev.now _)
  | succ d ih =>
    intro m s h hm hs
    by_cases h1 : m < 10
    · exact Ev.step (f := fun _ => some (sgn (decide (n < 0)) (dgz m s))) (fun k => by rw [hr m s k hm (by omega), if_pos h1]) (Ev.now _)
    · rw [dgz_far m s h1]
      exact Ev.step (fun k => by rw [hr m s k hm (by omega), if_neg h1]) (ih (m / 10) (strOfNums [48 + ((m % 10 : Nat) : Int)] ++ s) (by rw [Nat.pow_succ] at h; omega) (by omega) (by rw [ByteArray.size_append, str_size]; simp; omega))
theorem impl_dec (n : Int) (h0 : -9223372036854775808 ≤ n) (h1 : n < 9223372036854775808) : Ev (fun k => impl_Decimal.f k n) (decT n) := by
  unfold impl_Decimal.f
  have h' := impl_dec_l0 n (decide (n < 0)) 19 n.natAbs ⟨#[]⟩ (Nat.lt_of_le_of_lt (show n.natAbs ≤ 9223372036854775808 by omega) (by decide)) (by omega) (by simp [ByteArray.size])
  rw [← signed_of n] at h'
  have e : decT n = sgn (decide (n < 0)) (dgz n.natAbs ⟨#[]⟩) := by
    by_cases h : n = 0
    · subst h; rfl
    · rw [decT_sgn n h]; unfold dgz; rw [if_neg (by omega)]
  rw [e]
  exact h'
/-- What ReadDecimal tells. -/
def readDecT (s : ByteArray) : Int × Bool :=
  if 1 ≤ s.size ∧ s.size ≤ 10 ∧ digB s 0 = true ∧ ¬ (bt s 0 = 48 ∧ 1 < s.size) ∧ valD s.data.toList ≤ 1000000000 then (((valD s.data.toList : Nat) : Int), true) else (0, false)
theorem valD_take (s : ByteArray) (i : Nat) (h : i < s.size) : ∃ b : UInt8, s.data.toList.take (i + 1) = s.data.toList.take i ++ [b] ∧ bt s (i : Int) = (b.toNat : Int) :=
  ⟨s.data.toList[i]'(by simpa using h), List.take_succ_eq_append_getElem (by simpa using h), bt_list s i h⟩
theorem take_dg (s : ByteArray) (i : Nat) (hs : s.size ≤ 10) (hi : i ≤ s.size) (h : ∀ b ∈ s.data.toList.take i, isDg b) : valD (s.data.toList.take i) < 10000000000 := by
  have h1 := valD_lt _ h
  have h2 : (s.data.toList.take i).length = i := by simp; omega
  rw [h2] at h1
  exact Nat.lt_of_lt_of_le h1 (Nat.le_trans (Nat.pow_le_pow_right (n := 10) (by omega) (show i ≤ 10 by omega)) (by decide))
theorem impl_dig (a : Int) : impl_isDigit.f a = some (decide (48 ≤ a ∧ a ≤ 57)) := by
  unfold impl_isDigit.f
  by_cases h : a ≥ 48
  · rw [if_pos h]; simp; omega
  · rw [if_neg h]; simp; omega
theorem impl_digs_l0 (s : ByteArray) (hs : s.size ≤ 140737488351232) : ∀ (d i : Nat), s.size - i = d → Ev (fun k => impl_areDigits.l0 k s (s.size : Int) i) (digB s i) := by
  intro d
  induction d with
  | zero =>
    intro i hd
    rw [digB_end s i (by omega)]
    exact Ev.step (f := fun _ => some true) (fun k => by simp only [impl_areDigits.l0]; rw [if_neg (by omega)]) (Ev.now _)
  | succ d ih =>
    intro i hd
    by_cases h1 : 48 ≤ bt s i ∧ bt s i ≤ 57
    · rw [digB_yes s i h1]
      exact Ev.step (fun k => by simp only [impl_areDigits.l0]; rw [if_pos (by omega), if_pos (by omega), if_pos (by omega), impl_dig]; simp only [Option.bind_some]; rw [if_pos (decide_eq_true h1), w64 (by omega) (by omega)]; rfl) (ih (i + 1) (by omega))
    · rw [digB_no s i (by omega) (by omega)]
      exact Ev.step (f := fun _ => some false) (fun k => by simp only [impl_areDigits.l0]; rw [if_pos (by omega), if_pos (by omega), if_pos (by omega), impl_dig]; simp only [Option.bind_some]; rw [if_neg (by simpa using h1)]) (Ev.now _)
theorem impl_digs (s : ByteArray) (hs : s.size ≤ 140737488351232) : Ev (fun k => impl_areDigits.f k s) (digB s 0) := by
  unfold impl_areDigits.f; exact impl_digs_l0 s hs s.size 0 (by omega)
theorem impl_rd_l0 (s : ByteArray) (hs : s.size ≤ 10) (h1 : 1 ≤ s.size) (hdig : digB s 0 = true) (hz : ¬ (bt s 0 = 48 ∧ 1 < s.size)) : ∀ (d i : Nat), s.size - i = d → i ≤ s.size →
    Ev (fun k => impl_ReadDecimal.l0 k s ((valD (s.data.toList.take i) : Nat) : Int) (s.size : Int) (i : Int)) (readDecT s) := by
  have hall := (digB_list s).1 hdig
  intro d
  induction d with
  | zero =>
    intro i hd hi
    obtain rfl : i = s.size := by omega
    rw [List.take_of_length_le (by simp)]
    unfold readDecT
    by_cases h2 : valD s.data.toList > 1000000000
    · rw [if_neg (fun hh => by omega)]
      exact Ev.step (f := fun _ => some (0, false)) (fun k => by simp only [impl_ReadDecimal.l0]; rw [if_neg (by omega), if_pos (by omega)]) (Ev.now _)
    · rw [if_pos ⟨h1, hs, hdig, hz, by omega⟩]
      exact Ev.step (f := fun _ => some _) (fun k => by simp only [impl_ReadDecimal.l0]; rw [if_neg (by omega), if_neg (by omega)]) (Ev.now _)
  | succ d ih =>
    intro i hd hi
    obtain ⟨b, ht, hb⟩ := valD_take s i (by omega)
    have hv := take_dg s i hs (by omega) (fun c hc => hall c (List.mem_of_mem_take hc))
    have hbd : isDg b := hall b (List.mem_of_mem_take (i := i + 1) (by rw [ht]; simp))
    unfold isDg at hbd
    have h' := ih (i + 1) (by omega) (by omega)
    rw [ht, valD_snoc] at h'
    refine Ev.step (fun k => ?_) h'
    simp only [impl_ReadDecimal.l0]
    rw [if_pos (by omega), if_pos (by omega), if_pos (by omega), hb, w64 (x := 10 * ((valD (s.data.toList.take i) : Nat) : Int)) (by omega) (by omega), show ((b.toNat : Int) - 48) % 256 = ((b.toNat - 48 : Nat) : Int) by omega,
      w64 (by omega) (by omega), w64 (x := (i : Int) + 1) (by omega) (by omega),
      show 10 * ((valD (s.data.toList.take i) : Nat) : Int) + ((b.toNat - 48 : Nat) : Int) = ((10 * valD (s.data.toList.take i) + (b.toNat - 48) : Nat) : Int) by omega]
    rfl
theorem impl_readDec (s : ByteArray) (hs : s.size ≤ 140737488351232) : Ev (fun k => impl_ReadDecimal.f k s) (readDecT s) := by
  have hj : ∀ (k : Nat) (b : Bool), impl_ReadDecimal.j0 (k + 1) s b = if b = true then (some (0, false)) else (impl_ReadDecimal.l0 k s 0 (s.size : Int) 0) := fun _ _ => rfl
  have hbad : readDecT s = (0, false) → Ev (fun k => impl_ReadDecimal.j0 k s true) (readDecT s) := by
    intro h; rw [h]
    exact Ev.step (f := fun _ => some (0, false)) (fun k => by rw [hj, if_pos rfl]) (Ev.now _)
  unfold impl_ReadDecimal.f
  rw [impl_in]
  simp only [Option.bind_some]
  by_cases h : 1 ≤ s.size ∧ s.size ≤ 10
  · simp only [show decide ((1 : Int) ≤ (s.size : Int) ∧ (s.size : Int) ≤ 10) = true from decide_eq_true (by omega), if_true]
    refine Ev.bind (impl_digs s hs) ?_
    by_cases hd : digB s 0 = true
    · simp only [hd, if_true]
      have hgood : ¬ (bt s 0 = 48 ∧ 1 < s.size) → Ev (fun k => impl_ReadDecimal.j0 k s false) (readDecT s) := by
        intro hz
        exact Ev.step (fun k => by rw [hj, if_neg (by simp)]; rfl) (impl_rd_l0 s h.2 h.1 hd hz s.size 0 (by omega) (by omega))
      by_cases h1 : (s.size : Int) > 1
      · simp only [if_pos h1, if_pos (show (0 : Int) < (s.size : Int) by omega)]
        by_cases h2 : bt s 0 = 48
        · rw [show (bt s 0 == 48) = true by simpa using h2]
          exact hbad (by unfold readDecT; rw [if_neg (fun hh => hh.2.2.2.1 ⟨h2, by omega⟩)])
        · rw [show (bt s 0 == 48) = false by simpa using h2]
          exact hgood (fun hh => h2 hh.1)
      · simp only [if_neg h1]
        exact hgood (fun hh => by omega)
    · simp only [if_neg hd]
      exact hbad (by unfold readDecT; rw [if_neg (fun hh => hd hh.2.2.1)])
  · simp only [show decide ((1 : Int) ≤ (s.size : Int) ∧ (s.size : Int) ≤ 10) = false from decide_eq_false (by omega)]
    exact hbad (by unfold readDecT; rw [if_neg (fun hh => h ⟨hh.1, hh.2.1⟩)])
/-- A figure of 16. -/
def hexd (x : Nat) : Int := if x < 10 then 48 + x else 87 + x
def hexL : List UInt8 → List Int
  | [] => []
  | b :: l => hexd (b.toNat / 16) :: hexd (b.toNat % 16) :: hexL l
theorem hexL_len (l : List UInt8) : (hexL l).length = 2 * l.length := by
  induction l with
  | nil => rfl
  | cons b l ih => simp [hexL, ih]; omega
theorem hexd_range (x : Nat) (h : x < 16) : 48 ≤ hexd x ∧ hexd x ≤ 102 := by unfold hexd; split <;> omega
/-- What Hex tells. -/
def hexT (s : ByteArray) : ByteArray × Bool := if s.size ≤ 12000 then (strOfNums (hexL s.data.toList), true) else (⟨#[]⟩, false)
theorem bt_nat (s : ByteArray) (i : Nat) (h : i < s.size) : ∃ b : UInt8, s.data.toList.drop i = b :: s.data.toList.drop (i + 1) ∧ bt s i = (b.toNat : Int) ∧ b.toNat < 256 :=
  ⟨_, drop_list s i h, bt_list s i h, UInt8.toNat_lt _⟩
theorem hex_table : ∀ x : Nat, x < 16 → bt (⟨#[48, 49, 50, 51, 52, 53, 54, 55, 56, 57, 97, 98, 99, 100, 101, 102]⟩ : ByteArray) (x : Int) = hexd x := by decide
theorem impl_hex_l0 (s : ByteArray) (hs : s.size ≤ 12000) : ∀ (d i : Nat) (acc : List Int), s.size - i = d → acc.length ≤ 2 * i → i ≤ s.size →
    Ev (fun k => impl_Hex.l0 k s acc (s.size : Int) (i : Int)) (strOfNums (acc ++ hexL (s.data.toList.drop i)), true) := by
  intro d
  induction d with
  | zero =>
    intro i acc hd ha hi
    rw [List.drop_eq_nil_of_le (by simpa using (show s.size ≤ i by omega))]
    exact Ev.step (f := fun _ => some (strOfNums acc, true)) (fun k => by simp only [impl_Hex.l0]; rw [if_neg (by omega)]) (by simpa [hexL] using Ev.now _)
  | succ d ih =>
    intro i acc hd ha hi
    obtain ⟨b, e1, e2, hb⟩ := bt_nat s i (by omega)
    rw [e1]
    have h' := ih (i + 1) (acc ++ [hexd (b.toNat / 16), hexd (b.toNat % 16)]) (by omega) (by simp; omega) (by omega)
    rw [List.append_assoc] at h'
    have ea : Go.bits .and .u8 (b.toNat : Int) 15 = ((b.toNat % 16 : Nat) : Int) := by
      have h1 := and_u8 b.toNat 15 hb (by omega)
      rw [show b.toNat &&& 15 = b.toNat % 16 from mask _ 4] at h1
      exact h1
    refine Ev.step (f := fun k => impl_Hex.l0 k s (acc ++ [hexd (b.toNat / 16), hexd (b.toNat % 16)]) (s.size : Int) ((i + 1 : Nat) : Int)) (fun k => ?_) h'
    simp only [impl_Hex.l0]
    rw [if_pos (by omega), if_pos (by omega), if_pos (by omega), e2, ea, if_pos (by omega), if_pos (by omega), if_pos (by omega), if_pos (by omega),
      show (b.toNat : Int) / 16 = ((b.toNat / 16 : Nat) : Int) by omega, hex_table _ (by omega), hex_table _ (by omega)]
    simp only [Option.bind_some]
    rw [if_pos (by simp; omega), w64 (by omega) (by omega)]
    rfl
theorem impl_hex (s : ByteArray) : Ev (fun k => impl_Hex.f k s) (hexT s) := by
  unfold impl_Hex.f
  by_cases h : s.size ≤ 12000
  · have e : hexT s = (strOfNums (hexL s.data.toList), true) := by unfold hexT; rw [if_pos h]
    rw [e]
    simp only [if_neg (show ¬ (s.size : Int) > 12000 by omega)]
    simpa using impl_hex_l0 s h s.size 0 [] (by omega) (by simp) (by omega)
  · have e : hexT s = (⟨#[]⟩, false) := by unfold hexT; rw [if_neg h]
    rw [e]
    simp only [if_pos (show (s.size : Int) > 12000 by omega)]
    exact Ev.now _
/-- What a figure of 16 stands for; -1 of others. -/
def valB (x : Nat) : Int := if 48 ≤ x ∧ x ≤ 57 then x - 48 else if 97 ≤ x ∧ x ≤ 102 then x - 87 else -1
theorem valB_range (x : Nat) : -1 ≤ valB x ∧ valB x ≤ 15 := by
  unfold valB; split
  · omega
  · split <;> omega
def unhexL : List UInt8 → Option (List Int)
  | [] => some []
  | [_] => some []
  | a :: b :: l => if valB a.toNat < 0 then none else if valB b.toNat < 0 then none else (unhexL l).map fun y => (16 * valB a.toNat + valB b.toNat) :: y
def unhexR (acc : List Int) : Option (List Int) → ByteArray × Bool
  | none => (⟨#[]⟩, false)
  | some y => (strOfNums (acc ++ y), true)
/-- What Unhex tells. -/
def unhexT (s : ByteArray) : ByteArray × Bool := if s.size % 2 = 0 ∧ s.size ≤ 24000 then unhexR [] (unhexL s.data.toList) else (⟨#[]⟩, false)
theorem unhexR_cons (acc : List Int) (x : Int) (o : Option (List Int)) : unhexR acc (o.map fun y => x :: y) = unhexR (acc ++ [x]) o := by
  cases o with
  | none => rfl
  | some y => simp [unhexR]
theorem index_table : ∀ c : Fin 256, Lib.indexByte [48, 49, 50, 51, 52, 53, 54, 55, 56, 57, 97, 98, 99, 100, 101, 102] (c.val.toUInt8) = valB c.val := by decide +kernel
theorem impl_index (x : Nat) (h : x < 256) : strings_IndexByte.f (⟨#[48, 49, 50, 51, 52, 53, 54, 55, 56, 57, 97, 98, 99, 100, 101, 102]⟩ : ByteArray) (x : Int) = some (valB x) := by
  have h1 := index_table ⟨x, h⟩
  show some (Lib.indexByte _ _) = _
  rw [← h1]; rfl
theorem impl_unhex_l0 (s : ByteArray) (hs : s.size ≤ 24000) (h2 : s.size % 2 = 0) : ∀ (d i : Nat) (acc : List Int), s.size - i ≤ 2 * d → acc.length ≤ i → i ≤ s.size → i % 2 = 0 →
    Ev (fun k => impl_Unhex.l0 k s acc (i : Int)) (unhexR acc (unhexL (s.data.toList.drop i))) := by
  intro d
  induction d with
  | zero =>
    intro i acc hd ha hi hi2
    rw [List.drop_eq_nil_of_le (by simpa using (show s.size ≤ i by omega))]
    exact Ev.step (f := fun _ => some (strOfNums acc, true)) (fun k => by simp only [impl_Unhex.l0]; rw [if_neg (by omega)]) (by simpa [unhexL, unhexR] using Ev.now _)
  | succ d ih =>
    intro i acc hd ha hi hi2
    by_cases hlt : i < s.size
    · obtain ⟨a, ea, ea2, hba⟩ := bt_nat s i (by omega)
      obtain ⟨b, eb, eb2, hbb⟩ := bt_nat s (i + 1) (by omega)
      rw [ea, eb]
      have e1 : wrap64 ((i : Int) + 1) = ((i + 1 : Nat) : Int) := by rw [w64 (by omega) (by omega)]; rfl
      have e2 : wrap64 ((i : Int) + 2) = ((i + 2 : Nat) : Int) := by rw [w64 (by omega) (by omega)]; rfl
      have ra := valB_range a.toNat
      have rb := valB_range b.toNat
      refine Ev.step (f := fun k => (if valB a.toNat < 0 then (some ((⟨#[]⟩ : ByteArray), false)) else (if valB b.toNat < 0 then (some ((⟨#[]⟩ : ByteArray), false)) else (if acc.length < 140737488355328 then (impl_Unhex.l0 k s (acc ++ [(wrap64 ((wrap64 (16 * valB a.toNat)) + valB b.toNat)) % 256]) ((i + 2 : Nat) : Int)) else (none))))) (fun k => ?_) ?_
      · simp only [impl_Unhex.l0]
        rw [if_pos (by omega), if_pos (by omega), e1, e2, ea2, eb2, impl_index _ hba, impl_index _ hbb]
        simp only [Option.bind_some, if_pos (show (0 : Int) ≤ ((i + 1 : Nat) : Int) by omega), if_pos (show ((i + 1 : Nat) : Int) < (s.size : Int) by omega)]
      · unfold unhexL
        by_cases h3 : valB a.toNat < 0
        · simp only [if_pos h3]; exact Ev.now _
        · by_cases h4 : valB b.toNat < 0
          · simp only [if_neg h3, if_pos h4]; exact Ev.now _
          · simp only [if_neg h3, if_neg h4, if_pos (show acc.length < 140737488355328 by omega)]
            rw [unhexR_cons, w64 (x := 16 * valB a.toNat) (by omega) (by omega), w64 (by omega) (by omega), show (16 * valB a.toNat + valB b.toNat) % 256 = 16 * valB a.toNat + valB b.toNat by omega]
            exact ih (i + 2) _ (by omega) (by simp; omega) (by omega) (by omega)
    · rw [List.drop_eq_nil_of_le (by simpa using (show s.size ≤ i by omega))]
      exact Ev.step (f := fun _ => some (strOfNums acc, true)) (fun k => by simp only [impl_Unhex.l0]; rw [if_neg (by omega)]) (by simpa [unhexL, unhexR] using Ev.now _)
theorem impl_unhex (s : ByteArray) : Ev (fun k => impl_Unhex.f k s) (unhexT s) := by
  unfold impl_Unhex.f
  have hj : ∀ (k : Nat) (b : Bool), impl_Unhex.j0 (k + 1) s b = if b = true then (some ((⟨#[]⟩ : ByteArray), false)) else (impl_Unhex.l0 k s (([] : List Int)) 0) := fun _ _ => rfl
  by_cases h : s.size % 2 = 0 ∧ s.size ≤ 24000
  · have e : unhexT s = unhexR [] (unhexL s.data.toList) := by unfold unhexT; rw [if_pos h]
    rw [e]
    simp only [if_pos (show (s.size : Int) % 2 = 0 by omega), show decide ((s.size : Int) > 24000) = false from decide_eq_false (by omega)]
    refine Ev.step (f := fun k => impl_Unhex.l0 k s [] ((0 : Nat) : Int)) (fun k => by rw [hj, if_neg (by simp)]; rfl) ?_
    simpa using impl_unhex_l0 s h.2 h.1 s.size 0 [] (by omega) (by simp) (by omega) rfl
  · have e : unhexT s = (⟨#[]⟩, false) := by unfold unhexT; rw [if_neg h]
    rw [e]
    by_cases h1 : (s.size : Int) % 2 = 0
    · simp only [if_pos h1, show decide ((s.size : Int) > 24000) = true from decide_eq_true (by omega)]
      exact Ev.step (f := fun _ => some ((⟨#[]⟩ : ByteArray), false)) (fun k => by rw [hj, if_pos rfl]) (Ev.now _)
    · simp only [if_neg h1]
      exact Ev.step (f := fun _ => some ((⟨#[]⟩ : ByteArray), false)) (fun k => by rw [hj, if_pos rfl]) (Ev.now _)
theorem readDec_dec (n : Nat) (hn : n ≤ 1000000000) : readDecT (decT (n : Int)) = ((n : Int), true) := by
  have hd : decT (n : Int) = decN n := rfl
  have hz : (decN n).size ≤ 10 := (decN_size n 10 (by omega)).2 (by omega)
  unfold readDecT
  rw [hd, if_pos ⟨decN_pos n, hz, (digB_list _).2 (decN_dg n), decN_lead n, by rw [valD_decN]; exact hn⟩, valD_decN]
theorem valB_hexd : ∀ x : Nat, x < 16 → valB (byteOf (hexd x)).toNat = (x : Int) := by decide
theorem unhex_hex (l : List UInt8) : unhexL ((hexL l).map byteOf) = some (castL l) := by
  induction l with
  | nil => rfl
  | cons b l ih =>
    have hb : b.toNat < 256 := b.toNat_lt
    simp only [hexL, List.map_cons, unhexL, ih]
    rw [valB_hexd _ (by omega), valB_hexd _ (by omega), if_neg (by omega), if_neg (by omega)]
    simp only [Option.map_some, castL, List.map_cons]
    rw [show 16 * ((b.toNat / 16 : Nat) : Int) + ((b.toNat % 16 : Nat) : Int) = (b.toNat : Int) by omega]
theorem unhexT_hex (s : ByteArray) (h : s.size ≤ 12000) : unhexT (strOfNums (hexL s.data.toList)) = (s, true) := by
  have hz : (strOfNums (hexL s.data.toList)).size = 2 * s.size := by rw [str_size, hexL_len]; simp
  unfold unhexT
  rw [if_pos ⟨by omega, by omega⟩, str_data, unhex_hex]
  show (strOfNums ([] ++ castL s.data.toList), true) = (s, true)
  rw [List.nil_append, str_castA]
theorem readShort_short (s : ByteArray) (h : s.size ≤ 12000) : readShortT (strOfNums (varL s.size) ++ s) 0 = (s, (((strOfNums (varL s.size) ++ s).size : Nat) : Int), true) := by
  have hz : (strOfNums (varL s.size) ++ s).size = (varL s.size).length + s.size := by rw [ByteArray.size_append, str_size]
  have h0 : (⟨#[]⟩ : ByteArray) ++ strOfNums (varL s.size) = strOfNums (varL s.size) := by
    apply byteArray_ext; simp
  have hr := readVar_mid ⟨#[]⟩ s s.size (by omega)
  rw [h0] at hr
  have hr' : readVarT (strOfNums (varL s.size) ++ s) 0 = ((s.size : Int), (((varL s.size).length : Nat) : Int), true) := by
    have e : (⟨#[]⟩ : ByteArray).size = 0 := rfl
    rw [e, Nat.zero_add] at hr
    exact hr
  have hx : (strOfNums (varL s.size) ++ s).extract (varL s.size).length ((varL s.size).length + s.size) = s := by
    apply byteArray_ext
    have := extract_cut (strOfNums (varL s.size) ++ s) (varL s.size).length s.size
    rw [ByteArray.toList_eq] at this
    rw [this]
    unfold cutB
    have hdat : (strOfNums (varL s.size) ++ s).data.toList = (varL s.size).map byteOf ++ s.data.toList := by rw [← str_data]; simp
    rw [hdat, List.drop_append_of_le_length (by simp), List.drop_of_length_le (by simp), List.nil_append, List.take_of_length_le (by simp)]
  unfold readShortT
  rw [hr']
  simp only [if_true]
  rw [if_neg (by omega), if_neg (by omega), Int.toNat_natCast, show (((varL s.size).length : Int) + (s.size : Int)).toNat = (varL s.size).length + s.size by omega, hx, hz]
  rfl
theorem FnNumbers : laws_FnNumbers.Pure := by
  intro l _ hl _
  rw [Nat.mul_one] at hl
  refine Ev.rounds ?_
  have hj0 : ∀ (k : Nat) (x : Int) (z : Bool), laws_FnNumbers.j0 (k + 1) l x z = if z = true then (laws_FnNumbers.j1 k l 12345) else (laws_FnNumbers.j1 k l x) := fun _ _ _ => rfl
  obtain ⟨s, es, hs⟩ := spec_drawHex l hl
  have tail : ∀ (n len : Nat) (V x : ByteArray), x.size ≤ 12000 → V.size = len → len ≤ 100 → Ev (fun k => laws_FnNumbers.j2 k (n : Int) V true (n : Int) ((1 + len : Nat) : Int) true (n : Int) true x) true := by
    intro n len V x hx hV hlen
    have c1 := impl_short x
    have c3 := impl_hex x
    have e1 : shortT x = (strOfNums (varL x.size) ++ x, true) := by unfold shortT; rw [if_pos hx]
    have e3 : hexT x = (strOfNums (hexL x.data.toList), true) := by unfold hexT; rw [if_pos hx]
    have hv : (strOfNums (varL x.size)).size ≤ 3 := varL_small _ hx
    have c2 := impl_readShort (strOfNums (varL x.size) ++ x) (by rw [ByteArray.size_append]; omega) 0
    have c4 := impl_unhex (strOfNums (hexL x.data.toList))
    rw [e1] at c1
    rw [readShort_short x hx] at c2
    rw [e3] at c3
    rw [unhexT_hex x hx] at c4
    have w : wrap64 ((V.size : Int) + 1) = ((1 + len : Nat) : Int) := by rw [w64 (by omega) (by omega)]; omega
    refine Ev.step (f := fun k => (impl_ShortText.f k x).bind fun bt234 => ((impl_ReadShort.f k bt234.1 0).bind fun bt236 => ((impl_Hex.f k x).bind fun bt239 => ((impl_Unhex.f k bt239.1).bind fun bt241 => (if true = true then (if true = true then (if true = true then (if bt234.2 = true then (if bt236.2.2 = true then (if bt239.2 = true then (if bt241.2 = true then (if (n : Int) = (n : Int) then (if (n : Int) = (n : Int) then (if ((1 + len : Nat) : Int) = (wrap64 ((V.size : Int) + 1)) then (if bt236.1.toList = x.toList then (if bt236.2.1 = (bt234.1.size : Int) then (some (bt241.1.toList == x.toList)) else (some false)) else (some false)) else (some false)) else (some false)) else (some false)) else (some false)) else (some false)) else (some false)) else (some false)) else (some false)) else (some false)) else (some false)))))) (fun k => rfl) (Ev.bind c1 (Ev.bind c2 (Ev.bind c3 (Ev.bind c4 ?_))))
    simp only [if_true, w, beq_self_eq_true]
    exact Ev.now true
  have key : ∀ n : Nat, n ≤ 1000000000 → Ev (fun k => laws_FnNumbers.j1 k l (n : Int)) true := by
    intro n hn
    have c1 := impl_varText (n : Int)
    rw [varT_in n hn] at c1
    have hV : (varL n).length ≤ 5 := varL_tight 5 n (by omega) (Nat.lt_of_le_of_lt hn (by decide))
    have hsz : (strOfNums (varL n)).size = (varL n).length := str_size _
    have hx1 : (⟨#[120]⟩ : ByteArray).size = 1 := rfl
    have hy1 : (⟨#[121]⟩ : ByteArray).size = 1 := rfl
    have k1 : 1 + (strOfNums (varL n)).size ≤ 9223372036854775807 := by omega
    have k2 : ((⟨#[120]⟩ : ByteArray) ++ strOfNums (varL n)).size + 1 ≤ 9223372036854775807 := by rw [ByteArray.size_append]; omega
    have c2 := impl_readVar ((⟨#[120]⟩ : ByteArray) ++ strOfNums (varL n) ++ (⟨#[121]⟩ : ByteArray)) (by rw [ByteArray.size_append, ByteArray.size_append]; omega) 1
    have r2 := readVar_mid ⟨#[120]⟩ ⟨#[121]⟩ n hn
    rw [hx1] at r2
    have r2' : readVarT ((⟨#[120]⟩ : ByteArray) ++ strOfNums (varL n) ++ (⟨#[121]⟩ : ByteArray)) 1 = ((n : Int), ((1 + (varL n).length : Nat) : Int), true) := r2
    rw [r2'] at c2
    have c3 := impl_dec (n : Int) (by omega) (by omega)
    have hdz : (decT (n : Int)).size ≤ 140737488351232 := by
      have : (decN n).size ≤ 10 := (decN_size n 10 (by omega)).2 (by omega)
      have hd : decT (n : Int) = decN n := rfl
      rw [hd]; omega
    have c4 := impl_readDec (decT (n : Int)) hdz
    rw [readDec_dec n hn] at c4
    refine Ev.step (f := fun k => (impl_VarText.f k (n : Int)).bind fun bt225 => (if 1 + bt225.1.size ≤ 9223372036854775807 then (if ((⟨#[120]⟩ : ByteArray) ++ bt225.1).size + 1 ≤ 9223372036854775807 then ((impl_ReadVar.f k (((⟨#[120]⟩ : ByteArray) ++ bt225.1) ++ (⟨#[121]⟩ : ByteArray)) 1).bind fun bt227 => ((impl_Decimal.f k (n : Int)).bind fun t230 => ((impl_ReadDecimal.f k t230).bind fun bt231 => ((spec_DrawHex.f k l).bind fun t233 => (if (t233.size : Int) > 300 then (laws_FnNumbers.j2 k (n : Int) bt225.1 bt225.2 bt227.1 bt227.2.1 bt227.2.2 bt231.1 bt231.2 (⟨#[97, 98, 99]⟩ : ByteArray)) else (laws_FnNumbers.j2 k (n : Int) bt225.1 bt225.2 bt227.1 bt227.2.1 bt227.2.2 bt231.1 bt231.2 t233)))))) else (none)) else (none))) (fun k => rfl) (Ev.bind c1 ?_)
    simp only [if_pos k1, if_pos k2]
    refine Ev.bind c2 (Ev.bind c3 (Ev.bind c4 (Ev.bind es ?_)))
    by_cases h3 : (s.size : Int) > 300
    · simp only [if_pos h3]
      exact tail n (varL n).length (strOfNums (varL n)) ⟨#[97, 98, 99]⟩ (by decide) hsz (by omega)
    · simp only [if_neg h3]
      exact tail n (varL n).length (strOfNums (varL n)) s (by omega) hsz (by omega)
  unfold laws_FnNumbers.f laws_big.f
  simp only [Option.bind_some]
  by_cases hb : (l.length : Int) > 1048576
  · rw [decide_eq_true hb]
    simp only [if_true]
    exact Ev.now true
  · rw [decide_eq_false hb]
    simp only [Bool.false_eq_true, if_false]
    obtain ⟨z, ez⟩ := spec_drawVar l hl
    have k12345 : Ev (fun k => laws_FnNumbers.j1 k l 12345) true := key 12345 (by omega)
    refine Ev.bind ez ?_
    by_cases h1 : z < 0
    · simp only [if_pos h1]
      exact Ev.step (f := fun k => laws_FnNumbers.j1 k l 12345) (fun k => by rw [hj0, if_pos rfl]) k12345
    · simp only [if_neg h1]
      by_cases h2 : z > 1000000000
      · rw [decide_eq_true h2]
        exact Ev.step (f := fun k => laws_FnNumbers.j1 k l 12345) (fun k => by rw [hj0, if_pos rfl]) k12345
      · rw [decide_eq_false h2]
        have kz := key z.toNat (by omega)
        rw [show ((z.toNat : Nat) : Int) = z by omega] at kz
        exact Ev.step (fun k => by rw [hj0, if_neg (by simp)]) kz
end Go.Proofs.Ythbbdnicpbbnpaa.Pure
