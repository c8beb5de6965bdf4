/- At every two great numbers drawn the laws of sums, products, powers and order hold of the program's own. No condition but the statement's own. -/
import Derived.Test.YthbbdnicpbbnpaaMFnGreatsx6
import Derived.Test.YthbbdnicpbbnpaaCB
namespace Go.Proofs.Ythbbdnicpbbnpaa.Pure
open Go.RowKit Go.Proofs.Ythbbdnicpbbnpaa.MFnGreats Go.Proofs.YthbbdnicpbbnpaaW.PrintWords Go.Proofs.YthbbdnicpbbnpaaW.PrintLast Go.Proofs.Ythbbdnicpbbnpaa.CB
/-- The eight lowest bits. -/
theorem and_low (x : Int) : 0 ≤ Go.bits .and .i64 x 255 ∧ Go.bits .and .i64 x 255 ≤ 255 := by
  have e : Go.bits .and .i64 x 255 = wrap64 (((BitVec.ofInt 64 x).toNat &&& 255 : Nat) : Int) := by
    simp only [Go.bits, wi64]
    show wrap64 (((BitVec.ofInt 64 x &&& BitVec.ofInt 64 255).toNat : Int)) = _
    rw [BitVec.toNat_and]
    rfl
  have h : (BitVec.ofInt 64 x).toNat &&& 255 ≤ 255 := Nat.and_le_right
  rw [e, w64 (by omega) (by omega)]
  omega
/-- One byte drawn. -/
theorem spec_byte (l : List Int) (i h : Int) (hl : l.length ≤ 140737488351232) (hi : 0 ≤ i) : ∃ v i' h', spec_l01Byte.f l i h = some (v, i', h') ∧ (0 ≤ v ∧ v ≤ 255) ∧ 0 ≤ i' := by
  unfold spec_l01Byte.f
  by_cases h1 : i < (l.length : Int)
  · rw [if_pos h1, if_pos hi]
    refine ⟨_, _, _, rfl, and_low _, ?_⟩
    rw [w64 (by omega) (by omega)]
    omega
  · rw [if_neg h1]
    exact ⟨_, _, _, rfl, and_low _, hi⟩
/-- A number below a bound drawn. -/
theorem spec_below (l : List Int) (i h n : Int) (hl : l.length ≤ 140737488351232) (hi : 0 ≤ i) (hn : 0 < n) : ∃ v i' h', spec_l01Below.f l i h n = some (v, i', h') ∧ (0 ≤ v ∧ v < n) ∧ 0 ≤ i' := by
  unfold spec_l01Below.f
  rw [if_neg (by omega)]
  by_cases h1 : n ≤ 256
  · rw [if_pos h1]
    obtain ⟨v, i', h', e, hv, hi'⟩ := spec_byte l i h hl hi
    rw [e]
    simp only [Option.bind_some]
    rw [if_neg (by omega), tmodN hv.1]
    exact ⟨_, _, _, rfl, ⟨Int.emod_nonneg _ (by omega), Int.emod_lt_of_pos _ hn⟩, hi'⟩
  · rw [if_neg h1]
    obtain ⟨v1, i1, h1, e1, r1, p1⟩ := spec_byte l i h hl hi
    obtain ⟨v2, i2, h2, e2, r2, p2⟩ := spec_byte l i1 h1 hl p1
    obtain ⟨v3, i3, h3, e3, r3, p3⟩ := spec_byte l i2 h2 hl p2
    obtain ⟨v4, i4, h4, e4, r4, p4⟩ := spec_byte l i3 h3 hl p3
    rw [e1]
    simp only [Option.bind_some]
    rw [e2]
    simp only [Option.bind_some]
    rw [e3]
    simp only [Option.bind_some]
    rw [e4]
    simp only [Option.bind_some]
    rw [if_neg (by omega), w64 (x := v1 * 16777216) (by omega) (by omega), w64 (x := v2 * 65536) (by omega) (by omega), w64 (x := v3 * 256) (by omega) (by omega), w64 (x := v1 * 16777216 + v2 * 65536) (by omega) (by omega), w64 (x := v1 * 16777216 + v2 * 65536 + v3 * 256) (by omega) (by omega), w64 (by omega) (by omega), tmodN (by omega)]
    exact ⟨_, _, _, rfl, ⟨Int.emod_nonneg _ (by omega), Int.emod_lt_of_pos _ hn⟩, p4⟩
theorem spec_new_l0 (l : List Int) (_hl : l.length ≤ 140737488351232) : ∀ (d i : Nat) (x : Int), 4000 - i = d → i ≤ 4000 → ∃ h, Ev (fun k => spec_l01New.l0 k l x (i : Int)) (l, 0, h) := by
  have hr : ∀ (k i : Nat) (x : Int), spec_l01New.l0 (k + 1) l x (i : Int) = if (i : Int) < (l.length : Int) then (if (i : Int) < 4000 then (if 0 ≤ (i : Int) then (spec_l01New.l0 k l (Go.bits .and .i64 (wrap64 ((wrap64 ((wrap64 (x * 131)) + (wrap64 (rd l i)))) + 7)) 1073741823) (wrap64 ((i : Int) + 1))) else (none)) else (some (l, 0, x))) else (some (l, 0, x)) := fun _ _ _ => rfl
  intro d
  induction d with
  | zero =>
    intro i x hd hi
    refine ⟨x, Ev.step (f := fun _ => some (l, 0, x)) (fun k => ?_) (Ev.now _)⟩
    rw [hr]
    split
    · rw [if_neg (by omega)]
    · rfl
  | succ d ih =>
    intro i x hd hi
    by_cases h1 : i < l.length
    · obtain ⟨h, e⟩ := ih (i + 1) (Go.bits .and .i64 (wrap64 ((wrap64 ((wrap64 (x * 131)) + (wrap64 (rd l i)))) + 7)) 1073741823) (by omega) (by omega)
      exact ⟨h, Ev.step (fun k => by rw [hr, if_pos (by omega), if_pos (by omega), if_pos (by omega), w64s (by omega)]) e⟩
    · exact ⟨x, Ev.step (f := fun _ => some (l, 0, x)) (fun k => by rw [hr, if_neg (by omega)]) (Ev.now _)⟩
/-- A source of draws made. -/
theorem spec_new (l : List Int) (hl : l.length ≤ 140737488351232) : ∃ h, Ev (fun k => spec_l01New.f k l) (l, 0, h) := spec_new_l0 l hl 4000 0 _ (by omega) (by omega)
theorem spec_once (l : List Int) (i h n : Int) (hl : l.length ≤ 140737488351232) (hi : 0 ≤ i) (hn : 0 < n) : ∃ (b : Bool) (i' h' : Int), spec_l01Once.f l i h n = some (b, i', h') ∧ 0 ≤ i' := by
  obtain ⟨v, i', h', e, _, p⟩ := spec_below l i h n hl hi hn
  refine ⟨v == 0, i', h', ?_, p⟩
  unfold spec_l01Once.f
  rw [e]
  rfl
/-- The value of numbers, the lowest first, to a base. -/
def valI (B : Int) : List Int → Int
  | [] => 0
  | x :: l => x + B * valI B l
theorem valI_append (B : Int) (l m : List Int) : valI B (l ++ m) = valI B l + B ^ l.length * valI B m := by
  induction l with
  | nil => simp [valI]
  | cons x l ih =>
    simp only [List.cons_append, valI, ih, List.length_cons, Int.pow_succ]
    grind
theorem valI_set (B : Int) (v : Int) : ∀ (l : List Int) (i : Nat), i < l.length → valI B (l.set i v) = valI B l + B ^ i * (v - l.getD i 0) := by
  intro l
  induction l with
  | nil => intro i h; simp at h
  | cons x l ih =>
    intro i h
    cases i with
    | zero => simp [valI]; omega
    | succ i =>
      have := ih i (by simpa using h)
      simp only [List.set_cons_succ, valI, this, List.getD_cons_succ, Int.pow_succ]
      grind
theorem valI_take_succ (B : Int) (l : List Int) (i : Nat) (h : i < l.length) : valI B (l.take (i + 1)) = valI B (l.take i) + B ^ i * l.getD i 0 := by
  rw [List.take_succ_eq_append_getElem h, valI_append]
  have : (l.take i).length = i := by simp; omega
  rw [this]
  simp [valI, List.getD_eq_getElem?_getD, List.getElem?_eq_getElem h]
theorem valI_zeros (B : Int) (n : Nat) : valI B (List.replicate n 0) = 0 := by
  induction n with
  | zero => rfl
  | succ n ih => rw [List.replicate_succ]; simp [valI, ih]
theorem valI_split (B : Int) (l : List Int) (i : Nat) (h : i ≤ l.length) : valI B l = valI B (l.take i) + B ^ i * valI B (l.drop i) := by
  conv => lhs; rw [← List.take_append_drop i l]
  rw [valI_append]
  have : (l.take i).length = i := by simp; omega
  rw [this]
theorem valI_range (B : Int) (hB : 0 < B) (l : List Int) (h : ∀ x ∈ l, 0 ≤ x ∧ x < B) : 0 ≤ valI B l ∧ valI B l < B ^ l.length := by
  induction l with
  | nil => simp [valI]
  | cons x l ih =>
    have h1 := h x (by simp)
    have h2 := ih (fun y hy => h y (by simp [hy]))
    simp only [valI, List.length_cons, Int.pow_succ]
    have h3 : 0 ≤ B * valI B l := Int.mul_nonneg (by omega) h2.1
    have h4 : B * valI B l ≤ B * (B ^ l.length - 1) := Int.mul_le_mul_of_nonneg_left (by omega) (by omega)
    have h5 : B * (B ^ l.length - 1) = B ^ l.length * B - B := by grind
    omega
theorem rd_nat (l : List Int) (i : Nat) : rd l (i : Int) = l.getD i 0 := by unfold rd; rw [Int.toNat_natCast]
theorem getD_mem (l : List Int) (i : Nat) (h : i < l.length) : l.getD i 0 ∈ l := by
  rw [List.getD_eq_getElem?_getD, List.getElem?_eq_getElem h]; simp
theorem getD_set_eq (l : List Int) (i : Nat) (v : Int) (h : i < l.length) : (l.set i v).getD i 0 = v := by
  simp [List.getD_eq_getElem?_getD, h]
theorem getD_set_ne (l : List Int) (i j : Nat) (v : Int) (h : i ≠ j) : (l.set i v).getD j 0 = l.getD j 0 := by
  simp [List.getD_eq_getElem?_getD, List.getElem?_set_ne h]
theorem set_last (m : Nat) (z d : Int) (T : List Int) : (List.replicate (m + 1) z ++ T).set m d = List.replicate m z ++ d :: T := by
  rw [List.replicate_succ', List.append_assoc, List.set_append_right _ _ (by simp)]
  simp
theorem getD_out (l : List Int) (i : Nat) (h : l.length ≤ i) : l.getD i 0 = 0 := by rw [List.getD_eq_getElem?_getD, List.getElem?_eq_none h]; rfl
theorem getD_zeros (n j : Nat) : (List.replicate n (0 : Int)).getD j 0 = 0 := by
  by_cases h : j < n
  · rw [List.getD_eq_getElem?_getD, List.getElem?_replicate]; simp [h]
  · rw [getD_out _ _ (by simp; omega)]
/-- The figures of a number, ahead of a text; nothing of 0. -/
def dgs (m : Nat) (s : ByteArray) : ByteArray := if m = 0 then s else dgs (m / 10) (strOfNums [48 + ((m % 10 : Nat) : Int)] ++ s)
termination_by m
decreasing_by omega
theorem dgs_zero (s : ByteArray) : dgs 0 s = s := by rw [dgs]; rfl
theorem dgs_pos (m : Nat) (s : ByteArray) (h : m ≠ 0) : dgs m s = dgs (m / 10) (strOfNums [48 + ((m % 10 : Nat) : Int)] ++ s) := by rw [dgs, if_neg h]
/-- What Decimal tells. -/
def decT (n : Int) : ByteArray := if n = 0 then ⟨#[48]⟩ else if n < 0 then ⟨#[45]⟩ ++ dgs n.natAbs ⟨#[]⟩ else dgs n.natAbs ⟨#[]⟩
def sgn (b : Bool) (s : ByteArray) : ByteArray := if b = true then ⟨#[45]⟩ ++ s else s
theorem decT_sgn (n : Int) (h : n ≠ 0) : decT n = sgn (decide (n < 0)) (dgs n.natAbs ⟨#[]⟩) := by
  unfold decT sgn; rw [if_neg h]; by_cases h1 : n < 0 <;> simp [h1]
theorem dgs_size : ∀ (d m : Nat) (s : ByteArray), m < 10 ^ d → (dgs m s).size ≤ s.size + d := by
  intro d
  induction d with
  | zero => intro m s h; obtain rfl : m = 0 := by omega
            rw [dgs_zero]; omega
  | succ d ih =>
    intro m s h
    by_cases h0 : m = 0
    · subst h0; rw [dgs_zero]; omega
    · rw [dgs_pos m s h0]
      have := ih (m / 10) (strOfNums [48 + ((m % 10 : Nat) : Int)] ++ s) (by rw [Nat.pow_succ] at h; omega)
      rw [ByteArray.size_append, str_size] at this
      simp only [List.length_cons, List.length_nil] at this; omega
theorem tdiv10 (b : Bool) (m : Nat) : Int.tdiv (if b then -(m : Int) else m) 10 = if b then -((m / 10 : Nat) : Int) else ((m / 10 : Nat) : Int) := by
  cases b with
  | false => simp only [Bool.false_eq_true, if_false]; rw [tdivN (Int.natCast_nonneg m)]; rfl
  | true => simp only [if_true]; rw [Int.neg_tdiv, tdivN (Int.natCast_nonneg m)]; rfl
theorem tmod10 (b : Bool) (m : Nat) : Int.tmod (if b then -(m : Int) else m) 10 = if b then -((m % 10 : Nat) : Int) else ((m % 10 : Nat) : Int) := by
  cases b with
  | false => simp only [Bool.false_eq_true, if_false]; rw [tmodN (Int.natCast_nonneg m)]; rfl
  | true => simp only [if_true]; rw [Int.neg_tmod, tmodN (Int.natCast_nonneg m)]; rfl
theorem signed_of (n : Int) : n = if decide (n < 0) then -(n.natAbs : Int) else (n.natAbs : Int) := by
  by_cases h : n < 0
  · rw [decide_eq_true h]; simp only [if_true]; omega
  · rw [decide_eq_false h]; simp only [Bool.false_eq_true, if_false]; omega
/-- Whole numbers as bytes, and back. -/
def byteOf (n : Int) : UInt8 := UInt8.ofNat n.toNat
def castL (l : List UInt8) : List Int := l.map fun b => (b.toNat : Int)
theorem str_data (l : List Int) : (strOfNums l).data.toList = l.map byteOf := by unfold strOfNums byteOf; simp
theorem byteOf_cast (l : List UInt8) : (castL l).map byteOf = l := by
  unfold castL
  rw [List.map_map]
  conv => rhs; rw [← List.map_id l]
  apply List.map_congr_left
  intro b _
  simp [byteOf]
theorem cast_byteOf : ∀ (l : List Int), (∀ x ∈ l, 0 ≤ x ∧ x < 256) → castL (l.map byteOf) = l := by
  intro l
  induction l with
  | nil => intro _; rfl
  | cons x l ih =>
    intro h
    have hx := h x (by simp)
    have := ih (fun y hy => h y (by simp [hy]))
    unfold castL at this ⊢
    rw [List.map_cons, List.map_cons, this]
    congr 1
    simp [byteOf]; omega
theorem str_cast (l : List UInt8) : (strOfNums (castL l)).data.toList = l := by rw [str_data, byteOf_cast]
theorem byteArray_ext {a b : ByteArray} (h : a.data.toList = b.data.toList) : a = b := by
  cases a; cases b; congr; exact Array.toList_inj.mp h
theorem str_castA (s : ByteArray) : strOfNums (castL s.data.toList) = s := byteArray_ext (str_cast _)
theorem append_data (a b : ByteArray) : (a ++ b).data.toList = a.data.toList ++ b.data.toList := by simp
/-- From place i on a text has figures alone. -/
def digB (s : ByteArray) (i : Nat) : Bool := decide (∀ j : Nat, j < s.size → i ≤ j → 48 ≤ bt s j ∧ bt s j ≤ 57)
theorem digB_end (s : ByteArray) (i : Nat) (h : s.size ≤ i) : digB s i = true := by
  unfold digB; exact decide_eq_true (fun j h1 h2 => by omega)
theorem digB_no (s : ByteArray) (i : Nat) (h : i < s.size) (hb : bt s i < 48 ∨ bt s i > 57) : digB s i = false := by
  unfold digB
  refine decide_eq_false (fun H => ?_)
  have := H i h (Nat.le_refl _); omega
theorem digB_yes (s : ByteArray) (i : Nat) (hb : 48 ≤ bt s i ∧ bt s i ≤ 57) : digB s i = digB s (i + 1) := by
  unfold digB
  rw [decide_eq_decide]
  constructor
  · exact fun H j h1 h2 => H j h1 (by omega)
  · intro H j h1 h2
    rcases Nat.eq_or_lt_of_le h2 with e | e
    · subst e; exact hb
    · exact H j h1 e
/-- Right figures. -/
def figOk (s : ByteArray) : Bool := decide (1 ≤ s.size ∧ s.size ≤ 800) && digB s 0 && !(bt s 0 == 48 && decide (1 < s.size))
/-- The figures of a number as bytes; nothing of 0. The number of figures. -/
def dgL (m : Nat) : List UInt8 := (dgs m ⟨#[]⟩).data.toList
theorem dgs_split (m : Nat) : ∀ s : ByteArray, (dgs m s).data.toList = dgL m ++ s.data.toList := by
  induction m using Nat.strongRecOn with
  | _ m ih =>
    intro s
    by_cases h : m = 0
    · subst h; unfold dgL; rw [dgs_zero, dgs_zero]; rfl
    · unfold dgL
      rw [dgs_pos m s h, dgs_pos m ⟨#[]⟩ h, ih (m / 10) (by omega), ih (m / 10) (by omega), append_data, append_data, List.append_assoc]
      simp
theorem dgL_zero : dgL 0 = [] := by unfold dgL; rw [dgs_zero]
theorem dgL_pos (m : Nat) (h : m ≠ 0) : dgL m = dgL (m / 10) ++ [UInt8.ofNat (48 + m % 10)] := by
  unfold dgL
  rw [dgs_pos m _ h, dgs_split]
  unfold dgL
  congr 1
def valD : List UInt8 → Nat := List.foldl (fun n b => 10 * n + (b.toNat - 48)) 0
theorem valD_snoc (l : List UInt8) (b : UInt8) : valD (l ++ [b]) = 10 * valD l + (b.toNat - 48) := by unfold valD; rw [List.foldl_append]; rfl
def isDg (b : UInt8) : Prop := 48 ≤ b.toNat ∧ b.toNat ≤ 57
theorem snoc_cases {P : List UInt8 → Prop} (h0 : P []) (h1 : ∀ l b, P l → P (l ++ [b])) : ∀ l, P l := by
  intro l
  have : ∀ n (l : List UInt8), l.length = n → P l := by
    intro n
    induction n with
    | zero => intro l hl; rw [List.length_eq_zero_iff] at hl; rw [hl]; exact h0
    | succ n ih =>
      intro l hl
      have hne : l ≠ [] := by intro h; rw [h] at hl; simp at hl
      rw [← List.dropLast_concat_getLast hne]
      exact h1 _ _ (ih _ (by simp; omega))
  exact this l.length l rfl
theorem valD_lt : ∀ l : List UInt8, (∀ b ∈ l, isDg b) → valD l < 10 ^ l.length := by
  refine snoc_cases (fun _ => by simp [valD]) ?_
  intro l b ih h
  have h1 := ih (fun c hc => h c (by simp [hc]))
  have h2 := h b (by simp)
  rw [valD_snoc, List.length_append, List.length_singleton, Nat.pow_succ]
  unfold isDg at h2
  omega
/-- Figures without a nought ahead are those of their number. -/
theorem dgL_valD : ∀ l : List UInt8, (∀ b ∈ l, isDg b) → (∀ b, l.head? = some b → b.toNat ≠ 48) → dgL (valD l) = l := by
  refine snoc_cases (fun _ _ => by simp [valD, dgL_zero]) ?_
  intro l b ih h hh
  have h2 := h b (by simp)
  unfold isDg at h2
  have hpos : valD (l ++ [b]) ≠ 0 := by
    rw [valD_snoc]
    cases l with
    | nil => have := hh b (by simp); simp [valD]; omega
    | cons c l =>
      have hc := hh c (by simp)
      have hd := h c (by simp)
      unfold isDg at hd
      have hge : ∀ (l : List UInt8) (n : Nat), n ≤ List.foldl (fun n (b : UInt8) => 10 * n + (b.toNat - 48)) n l := by
        intro l
        induction l with
        | nil => intro n; exact Nat.le_refl n
        | cons d l ih => intro n; exact Nat.le_trans (show n ≤ 10 * n + (d.toNat - 48) by omega) (ih _)
      have := hge l (10 * 0 + (c.toNat - 48))
      unfold valD
      simp only [List.foldl_cons]
      omega
  rw [dgL_pos _ hpos, valD_snoc, show (10 * valD l + (b.toNat - 48)) / 10 = valD l by omega, show (10 * valD l + (b.toNat - 48)) % 10 = b.toNat - 48 by omega, show 48 + (b.toNat - 48) = b.toNat by omega]
  congr 1
  · refine ih (fun c hc => h c (by simp [hc])) ?_
    intro c hc
    cases l with
    | nil => simp at hc
    | cons d l => exact hh c (by simpa using hc)
  · simp
theorem dgL_len : ∀ (d m : Nat), m < 10 ^ d → (dgL m).length ≤ d := by
  intro d m h
  have := dgs_size d m ⟨#[]⟩ h
  have h2 : (dgL m).length = (dgs m ⟨#[]⟩).size := by unfold dgL; simp
  rw [h2]
  exact Nat.le_trans this (Nat.le_of_eq (Nat.zero_add d))
/-- What Decimal tells of a number that is not below 0, as bytes. -/
theorem decT_pos (n : Nat) (h : n ≠ 0) : (decT (n : Int)).data.toList = dgL n := by
  unfold decT dgL
  rw [if_neg (by omega), if_neg (by omega), Int.natAbs_natCast]
theorem digB_list (s : ByteArray) : digB s 0 = true ↔ ∀ b ∈ s.data.toList, isDg b := by
  unfold digB
  rw [decide_eq_true_iff]
  constructor
  · intro H b hb
    obtain ⟨j, hj, rfl⟩ := List.getElem_of_mem hb
    have := H j (by simpa using hj) (by omega)
    rw [bt_list s j (by simpa using hj)] at this
    unfold isDg; omega
  · intro H j hj _
    rw [bt_list s j hj]
    have := H _ (List.getElem_mem (l := s.data.toList) (by simpa using hj))
    unfold isDg at this; omega
/-- A text is the decimal of its value just when it is right. -/
theorem dec_of_val (s : ByteArray) (hd : ∀ b ∈ s.data.toList, isDg b) : (decT ((valD s.data.toList : Nat) : Int)).toList = s.toList ↔ (1 ≤ s.size ∧ ¬ (bt s 0 = 48 ∧ 1 < s.size)) := by
  rw [ByteArray.toList_eq, ByteArray.toList_eq]
  have hlen : s.data.toList.length = s.size := by simp
  rcases hl : s.data.toList with _ | ⟨b, l⟩
  · rw [hl] at hlen; simp at hlen
    constructor
    · intro h; exact absurd h (by simp [valD, decT])
    · intro h; omega
  · rw [hl] at hlen hd
    have hb : bt s 0 = (b.toNat : Int) := by
      have := bt_list s 0 (by simp at hlen; omega)
      simp only [hl, List.getElem_cons_zero] at this
      exact this
    simp only [List.length_cons] at hlen
    by_cases h0 : b.toNat = 48
    · by_cases h1 : l = []
      · subst h1
        have hv : valD [b] = 0 := by simp [valD, h0]
        rw [hv]
        constructor
        · intro _; simp at hlen; omega
        · intro _
          show [(48 : UInt8)] = [b]
          congr 1
          exact UInt8.toNat_inj.mp h0.symm
      · have hl1 : 1 ≤ l.length := by
          rcases l with _ | ⟨_, _⟩
          · exact absurd rfl h1
          · simp
        constructor
        · intro h
          exfalso
          have hv : valD (b :: l) = valD l := by unfold valD; simp [h0]
          rw [hv] at h
          have hlt := valD_lt l (fun c hc => hd c (by simp [hc]))
          by_cases hz : valD l = 0
          · rw [hz] at h
            have h4 : ([(48 : UInt8)] : List UInt8).length = (b :: l).length := congrArg List.length h
            simp only [List.length_cons, List.length_nil] at h4; omega
          · rw [decT_pos _ hz] at h
            have := congrArg List.length h
            have h3 := dgL_len _ _ hlt
            rw [List.length_cons] at this; omega
        · intro h; omega
    · have hb2 := hd b (by simp)
      unfold isDg at hb2
      have hv := dgL_valD (b :: l) hd (by intro c hc; simp at hc; rw [← hc]; exact h0)
      have hne : valD (b :: l) ≠ 0 := by intro h; rw [h, dgL_zero] at hv; simp at hv
      rw [decT_pos _ hne, hv]
      constructor
      · intro _; omega
      · intro _; rfl
/-- A number that is not below 0 in figures. -/
def decN (v : Nat) : ByteArray := decT (v : Int)
theorem decN_of (s : ByteArray) (hd : ∀ b ∈ s.data.toList, isDg b) (h1 : 1 ≤ s.size) (h2 : ¬ (bt s 0 = 48 ∧ 1 < s.size)) : decN (valD s.data.toList) = s := by
  have h := (dec_of_val s hd).2 ⟨h1, h2⟩
  rw [ByteArray.toList_eq, ByteArray.toList_eq] at h
  exact byteArray_ext h
theorem dgL_dg (m : Nat) : ∀ b ∈ dgL m, isDg b := by
  induction m using Nat.strongRecOn with
  | _ m ih =>
    by_cases h : m = 0
    · subst h; rw [dgL_zero]; simp
    · rw [dgL_pos m h]
      intro b hb
      rcases List.mem_append.1 hb with e | e
      · exact ih (m / 10) (by omega) b e
      · rw [List.mem_singleton.1 e]; unfold isDg
        have : (UInt8.ofNat (48 + m % 10)).toNat = 48 + m % 10 := by simp; omega
        rw [this]; omega
theorem valD_dgL (m : Nat) : valD (dgL m) = m := by
  induction m using Nat.strongRecOn with
  | _ m ih =>
    by_cases h : m = 0
    · subst h; rw [dgL_zero]; rfl
    · rw [dgL_pos m h, valD_snoc, ih (m / 10) (by omega)]
      have : (UInt8.ofNat (48 + m % 10)).toNat = 48 + m % 10 := by simp; omega
      rw [this]; omega
theorem dgL_head (m : Nat) : ∀ b, (dgL m).head? = some b → b.toNat ≠ 48 := by
  induction m using Nat.strongRecOn with
  | _ m ih =>
    by_cases h : m = 0
    · subst h; rw [dgL_zero]; simp
    · rw [dgL_pos m h]
      intro b hb
      by_cases h1 : m / 10 = 0
      · rw [h1, dgL_zero, List.nil_append] at hb
        rw [← (Option.some.inj hb : UInt8.ofNat (48 + m % 10) = b)]
        have : (UInt8.ofNat (48 + m % 10)).toNat = 48 + m % 10 := by simp; omega
        rw [this]; omega
      · have hne : dgL (m / 10) ≠ [] := by
          rw [dgL_pos _ h1]; simp
        have hih := ih (m / 10) (by omega) b
        cases hc : dgL (m / 10) with
        | nil => exact absurd hc hne
        | cons c t =>
          rw [hc] at hb hih
          exact hih hb
theorem decN_data (v : Nat) : (decN v).data.toList = if v = 0 then [48] else dgL v := by
  by_cases h : v = 0
  · subst h; rfl
  · rw [if_neg h]; exact decT_pos v h
theorem decN_dg (v : Nat) : ∀ b ∈ (decN v).data.toList, isDg b := by
  rw [decN_data]
  split
  · intro b hb; simp at hb; rw [hb]; exact ⟨by decide, by decide⟩
  · exact dgL_dg v
theorem valD_decN (v : Nat) : valD (decN v).data.toList = v := by
  rw [decN_data]
  split
  · rename_i h; rw [h]; rfl
  · exact valD_dgL v
theorem size_data (s : ByteArray) : s.data.toList.length = s.size := by simp
theorem decN_pos (v : Nat) : 1 ≤ (decN v).size := by
  rw [← size_data, decN_data]
  split
  · simp
  · rename_i h; rw [dgL_pos v h]; simp
theorem decN_lead (v : Nat) : ¬ (bt (decN v) 0 = 48 ∧ 1 < (decN v).size) := by
  intro ⟨h1, h2⟩
  have hp := decN_pos v
  have hb := bt_list (decN v) 0 (by omega)
  rw [← size_data] at h2
  rw [decN_data] at h2
  by_cases h : v = 0
  · rw [if_pos h] at h2; simp at h2
  · have hd := decN_data v
    rw [if_neg h] at hd
    have hh := dgL_head v
    rw [← hd] at hh
    refine hh ((decN v).data.toList[0]'(by rw [size_data]; omega)) (by rw [List.head?_eq_getElem?, List.getElem?_eq_getElem]) ?_
    have h3 : (((decN v).data.toList[0]'(by rw [size_data]; omega)).toNat : Int) = 48 := by rw [← h1]; exact hb.symm
    omega
theorem decN_size (v d : Nat) (hd : 1 ≤ d) : (decN v).size ≤ d ↔ v < 10 ^ d := by
  constructor
  · intro h
    have h1 := valD_lt _ (decN_dg v)
    rw [valD_decN, size_data] at h1
    exact Nat.lt_of_lt_of_le h1 (Nat.pow_le_pow_right (by omega) h)
  · intro h
    rw [← size_data, decN_data]
    split
    · simpa using hd
    · exact dgL_len d v h
/-- Figures that fit. -/
def fitsT (v : Nat) : ByteArray × Bool := if (decN v).size ≤ 800 then (decN v, true) else (⟨#[]⟩, false)
theorem figOk_decN (v : Nat) : figOk (decN v) = decide ((decN v).size ≤ 800) := by
  have h1 := decN_pos v
  have h2 := (digB_list (decN v)).2 (decN_dg v)
  have h3 := decN_lead v
  unfold figOk
  rw [h2]
  by_cases h : (decN v).size ≤ 800
  · rw [decide_eq_true (show 1 ≤ (decN v).size ∧ (decN v).size ≤ 800 from ⟨h1, h⟩), decide_eq_true h]
    by_cases h4 : bt (decN v) 0 = 48
    · have : ¬ 1 < (decN v).size := fun h5 => h3 ⟨h4, h5⟩
      simp [this]
    · simp [h4]
  · rw [decide_eq_false (show ¬ (1 ≤ (decN v).size ∧ (decN v).size ≤ 800) from fun hh => h hh.2), decide_eq_false h]; rfl
theorem figOk_parts (s : ByteArray) (h : figOk s = true) : 1 ≤ s.size ∧ s.size ≤ 800 ∧ (∀ b ∈ s.data.toList, isDg b) ∧ ¬ (bt s 0 = 48 ∧ 1 < s.size) := by
  unfold figOk at h
  simp at h
  obtain ⟨⟨h1, h2⟩, h3⟩ := h
  refine ⟨h1.1, h1.2, (digB_list s).1 h2, ?_⟩
  intro ⟨h4, h5⟩
  rcases h3 with h | h
  · exact h h4
  · omega
theorem figOk_dec (s : ByteArray) (h : figOk s = true) : decN (valD s.data.toList) = s := by
  obtain ⟨h1, h2, h3, h4⟩ := figOk_parts s h
  exact decN_of s h3 h1 h4
/-- The value of figures as bytes, the highest first. -/
def vM : List Int → Int
  | [] => 0
  | c :: T => (c - 48) * 10 ^ T.length + vM T
def dgI (T : List Int) : Prop := ∀ c ∈ T, 48 ≤ c ∧ c ≤ 57
theorem valD_foldl (l : List UInt8) : ∀ n : Nat, List.foldl (fun n (b : UInt8) => 10 * n + (b.toNat - 48)) n l = n * 10 ^ l.length + valD l := by
  induction l with
  | nil => intro n; simp [valD]
  | cons b l ih =>
    intro n
    unfold valD
    rw [List.foldl_cons, List.foldl_cons, ih, ih, List.length_cons, Nat.pow_succ, Nat.mul_zero, Nat.zero_add]
    rw [Nat.add_mul, Nat.mul_comm 10 n, Nat.mul_assoc n 10, Nat.mul_comm 10 (10 ^ l.length)]
    omega
theorem valD_cons (b : UInt8) (l : List UInt8) : valD (b :: l) = (b.toNat - 48) * 10 ^ l.length + valD l := by
  have := valD_foldl l (10 * 0 + (b.toNat - 48))
  unfold valD
  rw [List.foldl_cons, this, Nat.mul_zero, Nat.zero_add]; rfl
theorem byteOf_toNat (c : Int) (h : 0 ≤ c ∧ c < 256) : ((byteOf c).toNat : Int) = c := by
  unfold byteOf
  have : (UInt8.ofNat c.toNat).toNat = c.toNat := by simp; omega
  rw [this]; omega
theorem vM_valD (T : List Int) (h : dgI T) : ((valD (T.map byteOf) : Nat) : Int) = vM T := by
  induction T with
  | nil => rfl
  | cons c T ih =>
    have hc := h c (by simp)
    have hb := byteOf_toNat c (by omega)
    have := ih (fun d hd => h d (by simp [hd]))
    rw [List.map_cons, valD_cons, List.length_map]
    unfold vM
    rw [← this, Int.natCast_add, Int.natCast_mul, Int.natCast_pow]
    rw [show (((byteOf c).toNat - 48 : Nat) : Int) = c - 48 by omega]
    rfl
theorem map_dg (T : List Int) (h : dgI T) : ∀ b ∈ T.map byteOf, isDg b := by
  intro b hb
  obtain ⟨c, hc, rfl⟩ := List.mem_map.1 hb
  have h1 := h c hc
  have h2 := byteOf_toNat c (by omega)
  unfold isDg; omega
/-- A text of figures, the highest first, without a nought ahead. -/
theorem text_decN (T : List Int) (h : dgI T) (h1 : 1 ≤ T.length) (h2 : ∀ c, T.head? = some c → 1 < T.length → c ≠ 48) : strOfNums T = decN (vM T).toNat := by
  have hd := str_data T
  have hsz : (strOfNums T).size = T.length := str_size T
  have hdg := map_dg T h
  rw [← hd] at hdg
  have := decN_of (strOfNums T) hdg (by omega) (by
    intro ⟨h3, h4⟩
    cases T with
    | nil => simp at h1
    | cons c T =>
      have h5 := bt_list (strOfNums (c :: T)) 0 (by omega)
      have h6 : (strOfNums (c :: T)).data.toList[0]'(by rw [size_data]; omega) = byteOf c := by simp only [hd]; rfl
      rw [h6, byteOf_toNat c (by have := h c (by simp); omega)] at h5
      have h7 : bt (strOfNums (c :: T)) ((0 : Nat) : Int) = 48 := h3
      rw [h7] at h5
      exact h2 c rfl (by omega) h5.symm)
  rw [← this, hd, ← vM_valD T h, Int.toNat_natCast]
/-- A text of figures from a place on, noughts ahead of it: the number's figures. -/
theorem spec_trim_l0 (s : ByteArray) (hs : s.size ≤ 100000) (hd : ∀ b ∈ s.data.toList, isDg b) : ∀ (d i : Nat), s.size - i = d → i + 1 ≤ s.size → valD (s.data.toList.drop i) = valD s.data.toList →
    Ev (fun k => spec_l06Trim.l0 k s (i : Int)) (decN (valD s.data.toList)) := by
  have hl : ∀ (k i : Nat), spec_l06Trim.l0 (k + 1) s (i : Int) = if (wrap64 ((i : Int) + 1)) < (s.size : Int) then (if 0 ≤ (i : Int) then (if (i : Int) < (s.size : Int) then (if (bt s i) = 48 then (spec_l06Trim.l0 k s (wrap64 ((i : Int) + 1))) else (if (s.size : Int) = 0 then (some (⟨#[48]⟩ : ByteArray)) else (if (i : Int) ≤ (s.size : Int) then (some (s.extract (i : Int).toNat s.size)) else (none)))) else (none)) else (none)) else (if (s.size : Int) = 0 then (some (⟨#[48]⟩ : ByteArray)) else (if 0 ≤ (i : Int) then (if (i : Int) ≤ (s.size : Int) then (some (s.extract (i : Int).toNat s.size)) else (none)) else (none))) := fun _ _ => rfl
  have hend : ∀ i : Nat, i + 1 ≤ s.size → valD (s.data.toList.drop i) = valD s.data.toList → (i + 1 < s.size → bt s i ≠ 48) → s.extract i s.size = decN (valD s.data.toList) := by
    intro i hi hv hb
    have hdat : (s.extract i s.size).data.toList = s.data.toList.drop i := by
      simp
      exact List.take_of_length_le (by rw [List.length_drop, size_data]; omega)
    have hsz : (s.extract i s.size).size = s.size - i := by simp
    rw [← hv, ← hdat]
    refine (decN_of (s.extract i s.size) ?_ (by omega) ?_).symm
    · rw [hdat]; intro b hb2; exact hd b (List.mem_of_mem_drop hb2)
    · intro ⟨h1, h2⟩
      have h3 := bt_list (s.extract i s.size) 0 (by omega)
      have h4 := bt_list s i (by omega)
      have h5 : (s.extract i s.size).data.toList[0]'(by rw [size_data]; omega) = s.data.toList[i]'(by rw [size_data]; omega) := by
        simp only [hdat]
        rw [List.getElem_drop]; rfl
      rw [h5, ← h4] at h3
      have h6 : bt (s.extract i s.size) ((0 : Nat) : Int) = 48 := h1
      rw [h6] at h3
      exact hb (by omega) h3.symm
  intro d
  induction d with
  | zero => intro i hd2 hi; omega
  | succ d ih =>
    intro i hd2 hi hv
    by_cases h1 : i + 1 < s.size
    · by_cases hb : bt s i = 48
      · have hdr := List.drop_eq_getElem_cons (l := s.data.toList) (i := i) (by rw [size_data]; omega)
        have hbi := bt_list s i (by omega)
        have hv2 : valD (s.data.toList.drop (i + 1)) = valD s.data.toList := by
          rw [← hv, hdr, valD_cons]
          have : (s.data.toList[i]'(by rw [size_data]; omega)).toNat = 48 := by omega
          rw [this]; simp
        exact Ev.step (fun k => by rw [hl, w64s (by omega), if_pos (by omega), if_pos (by omega), if_pos (by omega), if_pos hb]) (ih (i + 1) (by omega) (by omega) hv2)
      · rw [← hend i hi hv (fun _ => hb)]
        exact Ev.step (f := fun _ => some (s.extract i s.size)) (fun k => by rw [hl, w64s (by omega), if_pos (by omega), if_pos (by omega), if_pos (by omega), if_neg hb, if_neg (by omega), if_pos (by omega), Int.toNat_natCast]) (Ev.now _)
    · rw [← hend i hi hv (fun h => absurd h h1)]
      exact Ev.step (f := fun _ => some (s.extract i s.size)) (fun k => by rw [hl, w64s (by omega), if_neg (by omega), if_neg (by omega), if_pos (by omega), if_pos (by omega), Int.toNat_natCast]) (Ev.now _)
theorem spec_trim (s : ByteArray) (hs : s.size ≤ 100000) (hd : ∀ b ∈ s.data.toList, isDg b) : Ev (fun k => spec_l06Trim.f k s) (decN (valD s.data.toList)) := by
  unfold spec_l06Trim.f
  by_cases h0 : s.size = 0
  · have hnil : s.data.toList = [] := List.eq_nil_of_length_eq_zero (by rw [size_data]; exact h0)
    rw [hnil]
    exact Ev.step (f := fun _ => some (⟨#[48]⟩ : ByteArray)) (fun k => by simp only [spec_l06Trim.l0]; rw [w64 (by omega) (by omega), if_neg (by omega), if_pos (by omega)]) (Ev.now _)
  · exact spec_trim_l0 s hs hd s.size 0 (by omega) (by omega) (by simp)
theorem spec_pick (l : List Int) (i h : Int) (L : List Int) (hl : l.length ≤ 140737488351232) (hi : 0 ≤ i) (h1 : 1 ≤ L.length) : ∃ v i' h', spec_l01PickInt.f l i h L = some (v, i', h') ∧ v ∈ L ∧ 0 ≤ i' := by
  obtain ⟨v, i', h', e, r, p⟩ := spec_below l i h (L.length : Int) hl hi (by omega)
  refine ⟨L.getD v.toNat 0, i', h', ?_, getD_mem L _ (by omega), p⟩
  unfold spec_l01PickInt.f
  rw [e]
  simp only [Option.bind_some]
  rw [if_pos r.1, if_pos r.2]
  rfl
/-- A text of figures, of 1 to 800. -/
def figs800 (s : ByteArray) : Prop := (∀ b ∈ s.data.toList, isDg b) ∧ 1 ≤ s.size ∧ s.size ≤ 800
theorem figs_str (T : List Int) (hT : dgI T) (h1 : 1 ≤ T.length) (h8 : T.length ≤ 800) : figs800 (strOfNums T) := by
  refine ⟨?_, by rw [str_size]; omega, by rw [str_size]; omega⟩
  rw [str_data]
  exact map_dg T hT
theorem trim_size (s : ByteArray) (h : figs800 s) : (decN (valD s.data.toList)).size ≤ s.size := by
  rw [decN_size _ _ h.2.1]
  have := valD_lt s.data.toList h.1
  rwa [size_data] at this
theorem figs_decN (v : Nat) (h : (decN v).size ≤ 800) : figs800 (decN v) := ⟨decN_dg v, decN_pos v, h⟩
theorem spec_figs_j3 (l : List Int) (i h : Int) (hl : l.length ≤ 140737488351232) (hi : 0 ≤ i) (T : List Int) (hT : dgI T) (h1 : 1 ≤ T.length) (h8 : T.length ≤ 800) :
    ∃ s i' h', Ev (fun k => spec_l06Figures.j3 k T l i h) (s, i', h') ∧ figs800 s ∧ 0 ≤ i' := by
  have hr : ∀ k, spec_l06Figures.j3 (k + 1) T l i h = (spec_l01Once.f l i h 30).bind fun bt248 => (if bt248.1 = true then (some (strOfNums T, bt248.2.1, bt248.2.2)) else ((spec_l06Trim.f k (strOfNums T)).bind fun t251 => (some (t251, bt248.2.1, bt248.2.2)))) := fun _ => rfl
  have hs := figs_str T hT h1 h8
  obtain ⟨b, i', h', e, p⟩ := spec_once l i h 30 hl hi (by omega)
  cases b with
  | true =>
    refine ⟨strOfNums T, i', h', Ev.step (f := fun _ => some (strOfNums T, i', h')) (fun k => ?_) (Ev.now _), hs, p⟩
    rw [hr, e]
    rfl
  | false =>
    refine ⟨decN (valD (strOfNums T).data.toList), i', h', Ev.step (f := fun k => (spec_l06Trim.f k (strOfNums T)).bind fun t => some (t, i', h')) (fun k => ?_) (Ev.bind (spec_trim _ (by rw [str_size]; omega) hs.1) (Ev.now _)), figs_decN _ (Nat.le_trans (trim_size _ hs) hs.2.2), p⟩
    rw [hr, e]
    rfl
theorem spec_figs_l1 (l : List Int) (hl : l.length ≤ 140737488351232) : ∀ (d j : Nat) (T : List Int) (i h : Int), T.length - j = d → j ≤ T.length → dgI T → 1 ≤ T.length → T.length ≤ 800 → 0 ≤ i →
    ∃ s i' h', Ev (fun k => spec_l06Figures.l1 k (T.length : Int) T (j : Int) l i h) (s, i', h') ∧ figs800 s ∧ 0 ≤ i' := by
  have hr : ∀ (k j : Nat) (T : List Int) (i h : Int), spec_l06Figures.l1 (k + 1) (T.length : Int) T (j : Int) l i h = if (j : Int) < (T.length : Int) then ((spec_l01PickInt.f l i h (([48, 57] : List Int))).bind fun bt244 => (if 0 ≤ (j : Int) then (if (j : Int) < (T.length : Int) then (spec_l06Figures.l1 k (T.length : Int) (T.set (j : Int).toNat ((bt244.1) % 256)) (wrap64 ((j : Int) + 1)) l bt244.2.1 bt244.2.2) else (none)) else (none))) else (spec_l06Figures.j3 k T l i h) := fun _ _ _ _ _ => rfl
  intro d
  induction d with
  | zero =>
    intro j T i h hd hj hT h1 h8 hi
    obtain ⟨s, i', h', e, r⟩ := spec_figs_j3 l i h hl hi T hT h1 h8
    exact ⟨s, i', h', Ev.step (fun k => by rw [hr, if_neg (by omega)]) e, r⟩
  | succ d ih =>
    intro j T i h hd hj hT h1 h8 hi
    obtain ⟨v, i1, h1', e1, m, p⟩ := spec_pick l i h [48, 57] hl hi (by simp)
    have hv : v = 48 ∨ v = 57 := by simpa using m
    have hT2 : dgI (T.set j (v % 256)) := by
      intro c hc
      rcases List.mem_or_eq_of_mem_set hc with h2 | h2
      · exact hT c h2
      · omega
    obtain ⟨s, i', h', e, r⟩ := ih (j + 1) (T.set j (v % 256)) i1 h1' (by rw [List.length_set]; omega) (by rw [List.length_set]; omega) hT2 (by rw [List.length_set]; omega) (by rw [List.length_set]; omega) p
    rw [List.length_set] at e
    refine ⟨s, i', h', Ev.step (fun k => ?_) e, r⟩
    rw [hr, if_pos (by omega), e1]
    simp only [Option.bind_some]
    rw [if_pos (by omega), if_pos (by omega), w64s (by omega), Int.toNat_natCast]
theorem spec_figs_l0 (l : List Int) (hl : l.length ≤ 140737488351232) (n : Nat) (hn1 : 1 ≤ n) (hn : n ≤ 800) : ∀ (d j : Nat) (T : List Int) (i h : Int), n - j = d → j ≤ n → T.length = j → dgI T → 0 ≤ i →
    ∃ s i' h', Ev (fun k => spec_l06Figures.l0 k (n : Int) T (j : Int) l i h) (s, i', h') ∧ figs800 s ∧ 0 ≤ i' := by
  have hr : ∀ (k j : Nat) (T : List Int) (i h : Int), spec_l06Figures.l0 (k + 1) (n : Int) T (j : Int) l i h = if (j : Int) < (n : Int) then ((spec_l01Below.f l i h 10).bind fun bt232 => (if T.length < 140737488355328 then (spec_l06Figures.l0 k (n : Int) (T ++ [(wrap64 (48 + bt232.1)) % 256]) (wrap64 ((j : Int) + 1)) l bt232.2.1 bt232.2.2) else (none))) else ((spec_l01Once.f l i h 8).bind fun bt238 => (if bt238.1 = true then (spec_l06Figures.l1 k (n : Int) T 1 l bt238.2.1 bt238.2.2) else (spec_l06Figures.j3 k T l bt238.2.1 bt238.2.2))) := fun _ _ _ _ _ => rfl
  intro d
  induction d with
  | zero =>
    intro j T i h hd hj hT hdg hi
    obtain ⟨b, i1, h1, e1, p1⟩ := spec_once l i h 8 hl hi (by omega)
    cases b with
    | true =>
      obtain ⟨s, i', h', e, r⟩ := spec_figs_l1 l hl (T.length - 1) 1 T i1 h1 rfl (by omega) hdg (by omega) (by omega) p1
      rw [show T.length = n by omega] at e
      refine ⟨s, i', h', Ev.step (fun k => ?_) e, r⟩
      rw [hr, if_neg (by omega), e1]
      rfl
    | false =>
      obtain ⟨s, i', h', e, r⟩ := spec_figs_j3 l i1 h1 hl p1 T hdg (by omega) (by omega)
      refine ⟨s, i', h', Ev.step (fun k => ?_) e, r⟩
      rw [hr, if_neg (by omega), e1]
      rfl
  | succ d ih =>
    intro j T i h hd hj hT hdg hi
    obtain ⟨v, i1, h1, e1, r1, p1⟩ := spec_below l i h 10 hl hi (by omega)
    obtain ⟨s, i', h', e, r⟩ := ih (j + 1) (T ++ [48 + v]) i1 h1 (by omega) (by omega) (by simp; omega) (by
      intro c hc
      rcases List.mem_append.1 hc with h2 | h2
      · exact hdg c h2
      · rw [List.mem_singleton.1 h2]; omega) p1
    refine ⟨s, i', h', Ev.step (fun k => ?_) e, r⟩
    rw [hr, if_pos (by omega), e1]
    simp only [Option.bind_some]
    rw [if_pos (by omega), w64 (x := 48 + v) (by omega) (by omega), show (48 + v) % 256 = 48 + v by omega, w64s (by omega)]
/-- A text of figures drawn. -/
theorem spec_figures (l : List Int) (i h : Int) (hl : l.length ≤ 140737488351232) (hi : 0 ≤ i) : ∃ s i' h', Ev (fun k => spec_l06Figures.f k l i h) (s, i', h') ∧ figs800 s ∧ 0 ≤ i' := by
  obtain ⟨v, i1, h1, e1, r1, p1⟩ := spec_below l i h 30 hl hi (by omega)
  obtain ⟨b, i2, h2, e2, p2⟩ := spec_once l i1 h1 12 hl p1 (by omega)
  have hj : ∀ (k : Nat) (n : Int) (i h : Int), spec_l06Figures.j0 (k + 1) n l i h = spec_l06Figures.l0 k n (([] : List Int)) 0 l i h := fun _ _ _ _ => rfl
  have key : ∀ (n : Nat) (i h : Int), 1 ≤ n → n ≤ 800 → 0 ≤ i → ∃ s i' h', Ev (fun k => spec_l06Figures.j0 k (n : Int) l i h) (s, i', h') ∧ figs800 s ∧ 0 ≤ i' := by
    intro n i h hn1 hn hi
    obtain ⟨s, i', h', e, r⟩ := spec_figs_l0 l hl n hn1 hn n 0 [] i h (by omega) (by omega) rfl (by intro c hc; simp at hc) hi
    exact ⟨s, i', h', Ev.step (f := fun k => spec_l06Figures.l0 k (n : Int) [] 0 l i h) (fun k => hj k _ _ _) e, r⟩
  unfold spec_l06Figures.f
  rw [e1]
  simp only [Option.bind_some]
  rw [e2]
  simp only [Option.bind_some]
  cases b with
  | true =>
    obtain ⟨n, i3, h3, e3, m, p3⟩ := spec_pick l i2 h2 [1, 9, 10, 18, 19, 800, 401, 400] hl p2 (by simp)
    have hn : 1 ≤ n ∧ n ≤ 800 := by simp at m; omega
    obtain ⟨s, i', h', e, r⟩ := key n.toNat i3 h3 (by omega) (by omega) p3
    rw [show ((n.toNat : Nat) : Int) = n by omega] at e
    refine ⟨s, i', h', ?_, r⟩
    simp only [if_true, e3, Option.bind_some]
    exact e
  | false =>
    obtain ⟨s, i', h', e, r⟩ := key (1 + v).toNat i2 h2 (by omega) (by omega) p2
    rw [show (((1 + v).toNat : Nat) : Int) = 1 + v by omega] at e
    refine ⟨s, i', h', ?_, r⟩
    simp only [Bool.false_eq_true, if_false]
    rw [w64 (x := 1 + v) (by omega) (by omega)]
    exact e
/-- The last 60 figures at most. -/
theorem spec_last60 (v : Nat) (hv : (decN v).size ≤ 800) : ∃ w : Nat, (decN w).size ≤ 60 ∧ (¬ ((decN v).size : Int) > 60 → w = v) ∧
    (((decN v).size : Int) > 60 → wrap64 (((decN v).size : Int) - 60) = (((decN v).size - 60 : Nat) : Int) ∧ Ev (fun k => spec_l06Trim.f k ((decN v).extract ((decN v).size - 60) (decN v).size)) (decN w)) := by
  by_cases h : ((decN v).size : Int) > 60
  · have hd : ((decN v).extract ((decN v).size - 60) (decN v).size).data.toList = (decN v).data.toList.drop ((decN v).size - 60) := by
      simp
      exact List.take_of_length_le (by rw [List.length_drop, size_data]; omega)
    have hz : ((decN v).extract ((decN v).size - 60) (decN v).size).size = 60 := by simp; omega
    have hf : figs800 ((decN v).extract ((decN v).size - 60) (decN v).size) := by
      refine ⟨?_, by omega, by omega⟩
      rw [hd]
      intro b hb
      exact decN_dg v b (List.mem_of_mem_drop hb)
    have ht := trim_size _ hf
    rw [hz] at ht
    exact ⟨_, ht, fun hh => absurd h hh, fun _ => ⟨by rw [w64 (by omega) (by omega)]; omega, spec_trim _ (by omega) hf.1⟩⟩
  · exact ⟨v, by omega, fun _ => rfl, fun hh => absurd hh h⟩
/-- Two numbers of at most 60 figures drawn. -/
theorem spec_greats (l : List Int) (hl : l.length ≤ 140737488351232) : ∃ A B : Nat, Ev (fun k => spec_DrawGreats.f k l) (decN A, decN B) ∧ (decN A).size ≤ 60 ∧ (decN B).size ≤ 60 := by
  obtain ⟨h, e⟩ := spec_new l hl
  obtain ⟨s1, i1, h1, e1, r1, p1⟩ := spec_figures l 0 h hl (by omega)
  obtain ⟨s2, i2, h2, e2, r2, p2⟩ := spec_figures l i1 h1 hl p1
  have t1 := spec_trim s1 (by have := r1.2.2; omega) r1.1
  have t2 := spec_trim s2 (by have := r2.2.2; omega) r2.1
  have z1 := Nat.le_trans (trim_size s1 r1) r1.2.2
  have z2 := Nat.le_trans (trim_size s2 r2) r2.2.2
  generalize valD s1.data.toList = A at *
  generalize valD s2.data.toList = B at *
  obtain ⟨A', hA, hA1, hA2⟩ := spec_last60 A z1
  obtain ⟨B', hB, hB1, hB2⟩ := spec_last60 B z2
  refine ⟨A', B', ?_, hA, hB⟩
  unfold spec_DrawGreats.f
  refine Ev.bind e (Ev.bind e1 (Ev.bind t1 (Ev.bind e2 (Ev.bind t2 ?_))))
  by_cases ha : ((decN A).size : Int) > 60
  · obtain ⟨wa, ta⟩ := hA2 ha
    simp only [if_pos ha, wa, Int.toNat_natCast]
    simp only [if_pos (show (0 : Int) ≤ (((decN A).size - 60 : Nat) : Int) by omega), if_pos (show (((decN A).size - 60 : Nat) : Int) ≤ ((decN A).size : Int) by omega)]
    refine Ev.bind ta ?_
    by_cases hb : ((decN B).size : Int) > 60
    · obtain ⟨wb, tb⟩ := hB2 hb
      simp only [if_pos hb, wb, Int.toNat_natCast]
      simp only [if_pos (show (0 : Int) ≤ (((decN B).size - 60 : Nat) : Int) by omega), if_pos (show (((decN B).size - 60 : Nat) : Int) ≤ ((decN B).size : Int) by omega)]
      exact Ev.bind tb (Ev.now _)
    · simp only [if_neg hb]
      rw [hB1 hb]
      exact Ev.now _
  · simp only [if_neg ha]
    rw [hA1 ha]
    by_cases hb : ((decN B).size : Int) > 60
    · obtain ⟨wb, tb⟩ := hB2 hb
      simp only [if_pos hb, wb, Int.toNat_natCast]
      simp only [if_pos (show (0 : Int) ≤ (((decN B).size - 60 : Nat) : Int) by omega), if_pos (show (((decN B).size - 60 : Nat) : Int) ≤ ((decN B).size : Int) by omega)]
      exact Ev.bind tb (Ev.now _)
    · simp only [if_neg hb]
      rw [hB1 hb]
      exact Ev.now _
theorem spec_places_l0 (l : List Int) (hl : l.length ≤ 140737488351232) : ∀ (d j : Nat) (T : List Int) (i h : Int), 12 - j = d → j ≤ 12 → T.length = j → (∀ x ∈ T, 0 ≤ x ∧ x < 10000) → 0 ≤ i →
    ∃ L : List Int, Ev (fun k => spec_DrawPlaces.l0 k T (j : Int) l i h) L ∧ L.length = 12 ∧ (∀ x ∈ L, 0 ≤ x ∧ x < 10000) := by
  have hr : ∀ (k j : Nat) (T : List Int) (i h : Int), spec_DrawPlaces.l0 (k + 1) T (j : Int) l i h = if (j : Int) < 12 then ((spec_l01Below.f l i h 10000).bind fun bt277 => (if T.length < 17592186044416 then (spec_DrawPlaces.l0 k (T ++ [bt277.1]) (wrap64 ((j : Int) + 1)) l bt277.2.1 bt277.2.2) else (none))) else (some T) := fun _ _ _ _ _ => rfl
  intro d
  induction d with
  | zero =>
    intro j T i h hd hj hT h9 hi
    exact ⟨T, Ev.step (f := fun _ => some T) (fun k => by rw [hr, if_neg (by omega)]) (Ev.now _), by omega, h9⟩
  | succ d ih =>
    intro j T i h hd hj hT h9 hi
    obtain ⟨v, i1, h1, e1, r1, p1⟩ := spec_below l i h 10000 hl hi (by omega)
    obtain ⟨L, e, r⟩ := ih (j + 1) (T ++ [v]) i1 h1 (by omega) (by omega) (by simp; omega) (by
      intro c hc
      rcases List.mem_append.1 hc with h2 | h2
      · exact h9 c h2
      · rw [List.mem_singleton.1 h2]; exact r1) p1
    refine ⟨L, Ev.step (fun k => ?_) e, r⟩
    rw [hr, if_pos (by omega), e1]
    simp only [Option.bind_some]
    rw [if_pos (by omega), w64s (by omega)]
/-- Twelve places drawn. -/
theorem spec_places (l : List Int) (hl : l.length ≤ 140737488351232) : ∃ L : List Int, Ev (fun k => spec_DrawPlaces.f k l) L ∧ L.length = 12 ∧ (∀ x ∈ L, 0 ≤ x ∧ x < 10000) := by
  obtain ⟨h, e⟩ := spec_new l hl
  obtain ⟨v, i1, h1, e1, _, p1⟩ := spec_byte l 0 h hl (by omega)
  obtain ⟨L, e2, r⟩ := spec_places_l0 l hl 12 0 [] i1 h1 (by omega) (by omega) rfl (by simp) p1
  refine ⟨L, ?_, r⟩
  unfold spec_DrawPlaces.f
  refine Ev.bind e ?_
  simp only [e1, Option.bind_some]
  exact e2
theorem impl_digitsOf_l0 (s : ByteArray) (hs : s.size ≤ 100000) (hd : ∀ b ∈ s.data.toList, isDg b) : ∀ (d i : Nat) (T : List Int), s.size - i = d → i ≤ s.size → T.length = i → (∀ x ∈ T, 0 ≤ x ∧ x < 10) → valI 10 T = ((valD (s.data.toList.take i) : Nat) : Int) →
    ∃ T' : List Int, Ev (fun k => impl_digitsOf.l0 k s (List.replicate (s.size - i) 0 ++ T) (s.size : Int) (i : Int)) T' ∧ T'.length = s.size ∧ (∀ x ∈ T', 0 ≤ x ∧ x < 10) ∧ valI 10 T' = ((valD s.data.toList : Nat) : Int) := by
  intro d
  induction d with
  | zero =>
    intro i T hd2 hi hT hT2 hv
    obtain rfl : i = s.size := by omega
    rw [List.take_of_length_le (by simp)] at hv
    refine ⟨T, ?_, hT, hT2, hv⟩
    rw [show s.size - s.size = 0 by omega]
    exact Ev.step (f := fun _ => some T) (fun k => by simp only [impl_digitsOf.l0]; rw [if_neg (by omega)]; simp) (Ev.now _)
  | succ d ih =>
    intro i T hd2 hi hT hT2 hv
    have hlt : i < s.size := by omega
    have hb := bt_list s i hlt
    have hdg := hd _ (List.getElem_mem (l := s.data.toList) (n := i) (by simpa using hlt))
    unfold isDg at hdg
    have htk := List.take_succ_eq_append_getElem (l := s.data.toList) (i := i) (by simpa using hlt)
    generalize s.data.toList[i]'(by simpa using hlt) = b at *
    obtain ⟨T', h1, h2⟩ := ih (i + 1) (((b.toNat : Int) - 48) :: T) (by omega) (by omega) (by simp; omega) (by
      intro x hx
      rcases List.mem_cons.1 hx with e | e
      · omega
      · exact hT2 x e) (by
      rw [htk, valD_snoc]
      simp only [valI]
      rw [hv]; omega)
    refine ⟨T', Ev.step (fun k => ?_) h1, h2⟩
    simp only [impl_digitsOf.l0]
    have e1 : wrap64 (wrap64 ((s.size : Int) - 1) - (i : Int)) = ((s.size - (i + 1) : Nat) : Int) := by
      rw [w64 (x := (s.size : Int) - 1) (by omega) (by omega), w64 (by omega) (by omega)]; omega
    rw [if_pos (by omega), if_pos (by omega), if_pos (by omega), e1, if_pos (by omega), if_pos (by simp; omega), w64s (by omega), hb, show ((b.toNat : Int) - 48) % 256 = (b.toNat : Int) - 48 by omega, Int.toNat_natCast,
      show s.size - i = (s.size - (i + 1)) + 1 by omega, set_last]
theorem impl_digitsOf (s : ByteArray) (hs : s.size ≤ 100000) (hd : ∀ b ∈ s.data.toList, isDg b) :
    ∃ T' : List Int, Ev (fun k => impl_digitsOf.f k s) T' ∧ T'.length = s.size ∧ (∀ x ∈ T', 0 ≤ x ∧ x < 10) ∧ valI 10 T' = ((valD s.data.toList : Nat) : Int) := by
  obtain ⟨T', h1, h2⟩ := impl_digitsOf_l0 s hs hd s.size 0 [] (by omega) (by omega) rfl (by simp) (by simp [valI, valD])
  refine ⟨T', ?_, h2⟩
  unfold impl_digitsOf.f
  simp only [if_pos (show (0 : Int) ≤ (s.size : Int) by omega), Int.toNat_natCast, if_pos (show s.size ≤ 35184372088832 by omega)]
  simpa using h1
theorem impl_figs_l1 (l : List Int) (n : Nat) (hn : n ≤ l.length) (hl : l.length ≤ 100000) (h9 : ∀ x ∈ l, 0 ≤ x ∧ x < 10) (h1 : 1 ≤ n) (h0 : 1 < n → l.getD (n - 1) 0 ≠ 0) :
    ∀ (d i : Nat) (T : List Int), n - i = d → i ≤ n → T.length = i → dgI T → vM T = valI 10 (l.take i) → (1 ≤ i → T.head? = some (48 + l.getD (i - 1) 0)) →
    Ev (fun k => impl_figuresOf.l1 k l (n : Int) (List.replicate (n - i) 0 ++ T) (n : Int) (i : Int)) (decN (valI 10 (l.take n)).toNat) := by
  intro d
  induction d with
  | zero =>
    intro i T hd hi hT hT2 hv hh
    obtain rfl : i = n := by omega
    have he := text_decN T hT2 (by omega) (by
      intro c hc h3
      have := hh h1
      rw [hc] at this
      have h4 := Option.some.inj this
      have h5 := h0 (by omega)
      omega)
    rw [hv] at he
    rw [← he, show i - i = 0 by omega]
    exact Ev.step (f := fun _ => some (strOfNums T)) (fun k => by simp only [impl_figuresOf.l1]; rw [if_neg (by omega)]; simp) (Ev.now _)
  | succ d ih =>
    intro i T hd hi hT hT2 hv hh
    have hx := h9 _ (getD_mem l i (by omega))
    refine Ev.step (fun k => ?_) (ih (i + 1) ((48 + l.getD i 0) :: T) (by omega) (by omega) (by simp; omega) (by
      intro c hc
      rcases List.mem_cons.1 hc with e | e
      · omega
      · exact hT2 c e) (by
      rw [valI_take_succ 10 l i (by omega), ← hv]
      simp only [vM]
      rw [hT, show 48 + l.getD i 0 - 48 = l.getD i 0 by omega, Int.mul_comm]; omega) (by intro _; rfl))
    simp only [impl_figuresOf.l1]
    have e1 : wrap64 (wrap64 ((n : Int) - 1) - (i : Int)) = ((n - (i + 1) : Nat) : Int) := by
      rw [w64 (x := (n : Int) - 1) (by omega) (by omega), w64 (by omega) (by omega)]; omega
    rw [if_pos (by omega), if_pos (by omega), if_pos (by omega), e1, if_pos (by omega), if_pos (by simp; omega), w64s (by omega), rd_nat, w64 (x := 48 + l.getD i 0) (by omega) (by omega), show (48 + l.getD i 0) % 256 = 48 + l.getD i 0 by omega, Int.toNat_natCast,
      show n - i = (n - (i + 1)) + 1 by omega, set_last]
theorem impl_figs_l0 (l : List Int) (hl : l.length ≤ 100000) (h9 : ∀ x ∈ l, 0 ≤ x ∧ x < 10) : ∀ n : Nat, n ≤ l.length → 1 ≤ n → valI 10 (l.take n) = valI 10 l →
    Ev (fun k => impl_figuresOf.l0 k l (n : Int)) (decN (valI 10 l).toNat) := by
  have hj : ∀ (n : Nat), n ≤ l.length → 1 ≤ n → (1 < n → l.getD (n - 1) 0 ≠ 0) → valI 10 (l.take n) = valI 10 l → Ev (fun k => impl_figuresOf.j1 k l (n : Int)) (decN (valI 10 l).toNat) := by
    intro n hn h1 h0 hv
    have h := impl_figs_l1 l n hn hl h9 h1 h0 n 0 [] (by omega) (by omega) rfl (by intro c hc; simp at hc) (by simp [vM, valI]) (by omega)
    rw [hv] at h
    refine Ev.step (fun k => ?_) h
    simp only [impl_figuresOf.j1]
    rw [if_pos (by omega), Int.toNat_natCast, if_pos (by omega)]
    simp
  intro n
  induction n with
  | zero => intro _ h; omega
  | succ n ih =>
    intro hn h1 hv
    by_cases h2 : 1 < n + 1
    · by_cases h0 : l.getD n 0 = 0
      · have hv2 : valI 10 (l.take n) = valI 10 l := by
          rw [valI_take_succ 10 l n (by omega), h0] at hv
          omega
        refine Ev.step (fun k => ?_) (ih (by omega) (by omega) hv2)
        simp only [impl_figuresOf.l0]
        rw [if_pos (by omega), w64 (by omega) (by omega), show ((n + 1 : Nat) : Int) - 1 = (n : Int) by omega, if_pos (by omega), if_pos (by omega), rd_nat, if_pos h0]
      · refine Ev.step (fun k => ?_) (hj (n + 1) hn h1 (fun _ => h0) hv)
        simp only [impl_figuresOf.l0]
        rw [if_pos (by omega), w64 (by omega) (by omega), show ((n + 1 : Nat) : Int) - 1 = (n : Int) by omega, if_pos (by omega), if_pos (by omega), rd_nat, if_neg h0]
    · refine Ev.step (fun k => ?_) (hj (n + 1) hn h1 (fun h => absurd h h2) hv)
      simp only [impl_figuresOf.l0]
      rw [if_neg (by omega)]
theorem impl_figuresOf (l : List Int) (h1 : 1 ≤ l.length) (hl : l.length ≤ 100000) (h9 : ∀ x ∈ l, 0 ≤ x ∧ x < 10) : Ev (fun k => impl_figuresOf.f k l) (decN (valI 10 l).toNat) := by
  unfold impl_figuresOf.f
  exact impl_figs_l0 l hl h9 l.length (by omega) h1 (by rw [List.take_of_length_le (by omega)])
/-- A round of the carrying. -/
def nextC (l : List Int) (i : Nat) : List Int :=
  let y := l.set i (l.getD i 0 % 10)
  let y' := if l.getD i 0 / 10 ≠ 0 ∧ i + 1 = l.length then y ++ [0] else y
  y'.set (i + 1) (y'.getD (i + 1) 0 + l.getD i 0 / 10)
theorem set_out (l : List Int) (i : Nat) (v : Int) (h : l.length ≤ i) : l.set i v = l := List.set_eq_of_length_le h
theorem set_same (l : List Int) (i : Nat) : l.set i (l.getD i 0) = l := by
  apply List.ext_getElem?
  intro j
  by_cases h : i = j
  · subst h
    by_cases h2 : i < l.length
    · rw [List.getElem?_set_self h2, List.getD_eq_getElem?_getD, List.getElem?_eq_getElem h2]; rfl
    · rw [List.getElem?_eq_none (by simp; omega), List.getElem?_eq_none (by omega)]
  · rw [List.getElem?_set_ne h]
theorem impl_carr_round (l : List Int) (i : Nat) (hi : i < l.length) (hl : l.length ≤ 100000) (hx : -1000000000000 ≤ l.getD i 0 ∧ l.getD i 0 ≤ 1000000000000) (hy : -1000000000000 ≤ l.getD (i + 1) 0 ∧ l.getD (i + 1) 0 ≤ 1000000000000) (k : Nat) :
    impl_carried.l0 (k + 3) l (i : Int) = impl_carried.l0 k (nextC l i) ((i + 1 : Nat) : Int) := by
  have hj2 : ∀ (k : Nat) (y : List Int) (r : Int) (z : Bool), impl_carried.j2 (k + 1) y (i : Int) r z = if z = true then (if y.length < 17592186044416 then ((some (y ++ [0] : List Int)).bind fun y157 => (if (wrap64 ((i : Int) + 1)) < (y157.length : Int) then (if 0 ≤ (wrap64 ((i : Int) + 1)) then (impl_carried.l0 k (y157.set ((wrap64 ((i : Int) + 1)) : Int).toNat (wrap64 ((rd y157 (wrap64 ((i : Int) + 1))) + r))) (wrap64 ((i : Int) + 1))) else (none)) else (impl_carried.l0 k y157 (wrap64 ((i : Int) + 1))))) else (none)) else (if (wrap64 ((i : Int) + 1)) < (y.length : Int) then (if 0 ≤ (wrap64 ((i : Int) + 1)) then (impl_carried.l0 k (y.set ((wrap64 ((i : Int) + 1)) : Int).toNat (wrap64 ((rd y (wrap64 ((i : Int) + 1))) + r))) (wrap64 ((i : Int) + 1))) else (none)) else (impl_carried.l0 k y (wrap64 ((i : Int) + 1)))) := fun _ _ _ _ => rfl
  have hj1 : ∀ (k : Nat) (y : List Int) (r : Int), impl_carried.j1 (k + 1) y (i : Int) r = if r = 0 then (impl_carried.j2 k y (i : Int) r false) else (impl_carried.j2 k y (i : Int) r ((wrap64 ((i : Int) + 1)) == (y.length : Int))) := fun _ _ _ => rfl
  have hl0 : ∀ (k : Nat), impl_carried.l0 (k + 1) l (i : Int) = if (i : Int) < (l.length : Int) then (if 0 ≤ (i : Int) then ((some (l.set (i : Int).toNat (Int.tmod (rd l i) 10) : List Int)).bind fun y153 => (if (rd y153 i) < 0 then (impl_carried.j1 k (y153.set (i : Int).toNat (wrap64 ((rd y153 i) + 10))) i (wrap64 ((wrap64 (Int.tdiv (rd l i) 10)) - 1))) else (impl_carried.j1 k y153 i (wrap64 (Int.tdiv (rd l i) 10))))) else (none)) else (some l) := fun _ => rfl
  have hi1 : wrap64 ((i : Int) + 1) = ((i + 1 : Nat) : Int) := w64s (by omega)
  generalize hxx : l.getD i 0 = x at *
  have h2 : ∀ k, impl_carried.j1 (k + 2) (l.set i (x % 10)) (i : Int) (x / 10) = impl_carried.l0 k (nextC l i) ((i + 1 : Nat) : Int) := by
    intro k
    have hlen : (l.set i (x % 10)).length = l.length := by simp
    have hge : (l.set i (x % 10)).getD (i + 1) 0 = l.getD (i + 1) 0 := getD_set_ne l i (i + 1) _ (by omega)
    unfold nextC
    rw [hxx, hj1]
    by_cases hr : x / 10 = 0
    · rw [if_pos hr, hj2, hi1, rd_nat, hge, hlen, if_neg (by simp), Int.toNat_natCast]
      simp only [if_neg (show ¬ (x / 10 ≠ 0 ∧ i + 1 = l.length) from fun h => h.1 hr), hge]
      by_cases h3 : i + 1 < l.length
      · rw [if_pos (by omega), if_pos (by omega), w64 (by omega) (by omega)]
      · rw [if_neg (by omega), set_out (l.set i (x % 10)) (i + 1) _ (by omega)]
    · rw [if_neg hr, hj2, hi1, hlen]
      by_cases h3 : i + 1 = l.length
      · have hz : (l.set i (x % 10) ++ [0]).getD (i + 1) 0 = 0 := by
          rw [List.getD_eq_getElem?_getD, List.getElem?_append_right (by simp; omega)]
          simp [h3]
        rw [if_pos (beq_iff_eq.mpr (by omega)), if_pos (by omega)]
        simp only [Option.bind_some, if_pos (show x / 10 ≠ 0 ∧ i + 1 = l.length from ⟨hr, h3⟩), hz]
        rw [if_pos (by simp; omega), if_pos (by omega), rd_nat, hz, Int.toNat_natCast, w64 (by omega) (by omega)]
      · simp only [if_neg (show ¬ (x / 10 ≠ 0 ∧ i + 1 = l.length) from fun h => h3 h.2), hge]
        rw [if_neg (fun hh => by have := beq_iff_eq.mp hh; omega), rd_nat, hge, Int.toNat_natCast]
        by_cases h4 : i + 1 < l.length
        · rw [if_pos (by omega), if_pos (by omega), w64 (by omega) (by omega)]
        · exfalso; omega
  rw [hl0, if_pos (by omega), if_pos (by omega), rd_nat, hxx, Int.toNat_natCast]
  simp only [Option.bind_some, rd_nat]
  rw [getD_set_eq l i _ hi]
  by_cases hn : 0 ≤ x
  · rw [tmodN hn, tdivN hn, if_neg (by omega), w64 (by omega) (by omega)]
    exact h2 k
  · have e1 : Int.tdiv x 10 = -((-x) / 10) := by
      have := Int.neg_tdiv (a := -x) (b := 10)
      rw [Int.neg_neg] at this
      rw [this, tdivN (by omega)]
    have e2 : Int.tmod x 10 = -((-x) % 10) := by
      have := Int.neg_tmod (-x) 10
      rw [Int.neg_neg] at this
      rw [this, tmodN (by omega)]
    rw [e1, e2]
    by_cases hm : (-x) % 10 = 0
    · rw [if_neg (by omega), w64 (by omega) (by omega), show -((-x) % 10) = x % 10 by omega, show -((-x) / 10) = x / 10 by omega]
      exact h2 k
    · rw [if_pos (by omega), w64 (x := -((-x) / 10)) (by omega) (by omega), w64 (x := -((-x) / 10) - 1) (by omega) (by omega), w64 (x := -((-x) % 10) + 10) (by omega) (by omega), List.set_set,
        show -((-x) % 10) + 10 = x % 10 by omega, show -((-x) / 10) - 1 = x / 10 by omega]
      exact h2 k
theorem pw10 (i : Nat) : (10 : Int) ^ i = ((10 ^ i : Nat) : Int) := by rw [Int.natCast_pow]; rfl
theorem pw10_pos (i : Nat) : (0 : Int) < 10 ^ i := by rw [pw10]; have : 0 < 10 ^ i := Nat.pow_pos (by omega); omega
theorem pw10_lt {i j : Nat} (h : (10 : Int) ^ i < 10 ^ j) : i < j := by
  rw [pw10, pw10] at h
  rcases Nat.lt_or_ge i j with h1 | h1
  · exact h1
  · have := Nat.pow_le_pow_right (n := 10) (by omega) h1; omega
theorem nextC_val (l : List Int) (i : Nat) (hi : i < l.length) : valI 10 (nextC l i) = valI 10 l := by
  unfold nextC
  have h1 := valI_set 10 (l.getD i 0 % 10) l i hi
  have hlen : (l.set i (l.getD i 0 % 10)).length = l.length := by simp
  generalize hx : l.getD i 0 = x at *
  have hk : (10 : Int) ^ i * (x % 10 - x) + 10 ^ (i + 1) * (x / 10) = 0 := by
    rw [Int.pow_succ, show x % 10 - x = -(10 * (x / 10)) by omega]
    grind
  by_cases hc : x / 10 ≠ 0 ∧ i + 1 = l.length
  · simp only [if_pos hc]
    have h2 : valI 10 (l.set i (x % 10) ++ [0]) = valI 10 (l.set i (x % 10)) := by rw [valI_append]; simp [valI]
    have hz : (l.set i (x % 10) ++ [0]).getD (i + 1) 0 = 0 := by
      rw [List.getD_eq_getElem?_getD, List.getElem?_append_right (by simp; omega)]
      simp [hc.2]
    have h3 := valI_set 10 ((l.set i (x % 10) ++ [0]).getD (i + 1) 0 + x / 10) (l.set i (x % 10) ++ [0]) (i + 1) (by simp; omega)
    rw [h3, h2, h1, hz, show (0 : Int) + x / 10 - 0 = x / 10 by omega]
    omega
  · simp only [if_neg hc]
    by_cases h4 : i + 1 < l.length
    · have h3 := valI_set 10 ((l.set i (x % 10)).getD (i + 1) 0 + x / 10) (l.set i (x % 10)) (i + 1) (by omega)
      rw [h3, h1, show (l.set i (x % 10)).getD (i + 1) 0 + x / 10 - (l.set i (x % 10)).getD (i + 1) 0 = x / 10 by omega]
      omega
    · have hr : x / 10 = 0 := by
        rcases Classical.em (x / 10 = 0) with h | h
        · exact h
        · exact absurd ⟨h, by omega⟩ hc
      rw [List.set_eq_of_length_le (by omega), h1]
      rw [hr] at hk
      omega
theorem nextC_get (l : List Int) (i j : Nat) (_hi : i < l.length) (hj : j ≠ i) (hj1 : j ≠ i + 1) : (nextC l i).getD j 0 = l.getD j 0 := by
  unfold nextC
  simp only
  rw [getD_set_ne _ _ _ _ (by omega)]
  split
  · by_cases h : j < l.length
    · rw [List.getD_eq_getElem?_getD, List.getElem?_append_left (by simpa using h), ← List.getD_eq_getElem?_getD, getD_set_ne _ _ _ _ (by omega)]
    · rw [List.getD_eq_getElem?_getD, List.getElem?_eq_none (by simp; omega), List.getD_eq_getElem?_getD, List.getElem?_eq_none (by omega)]
  · rw [getD_set_ne _ _ _ _ (by omega)]
theorem nextC_i (l : List Int) (i : Nat) (hi : i < l.length) : (nextC l i).getD i 0 = l.getD i 0 % 10 := by
  unfold nextC
  simp only
  rw [getD_set_ne _ _ _ _ (by omega)]
  split
  · rw [List.getD_eq_getElem?_getD, List.getElem?_append_left (by simpa using hi), ← List.getD_eq_getElem?_getD, getD_set_eq _ _ _ hi]
  · rw [getD_set_eq _ _ _ hi]
theorem nextC_i1 (l : List Int) (i : Nat) (_hi : i < l.length) (h : i + 1 < (nextC l i).length) : (nextC l i).getD (i + 1) 0 = l.getD (i + 1) 0 + l.getD i 0 / 10 := by
  unfold nextC at h ⊢
  simp only at h ⊢
  rw [List.length_set] at h
  rw [getD_set_eq _ _ _ h]
  congr 1
  split
  · rename_i hc
    rw [getD_out l (i + 1) (by omega), List.getD_eq_getElem?_getD, List.getElem?_append_right (by simp; omega)]
    simp [hc.2]
  · rw [getD_set_ne _ _ _ _ (by omega)]
theorem nextC_len (l : List Int) (i : Nat) : (nextC l i).length = if l.getD i 0 / 10 ≠ 0 ∧ i + 1 = l.length then l.length + 1 else l.length := by
  unfold nextC
  simp only [List.length_set]
  split <;> simp
theorem impl_carr_run (M : Int) (hM : 10 ≤ M ∧ M ≤ 100000000000) (N D : Nat) (hD : D ≤ N) (hN : N ≤ 90000) (V : Int) (hV : 0 ≤ V ∧ V < 10 ^ D) :
    ∀ (d i : Nat) (l : List Int), N + 1 - i = d → i ≤ l.length → l.length ≤ N + 1 → 1 ≤ l.length → (∀ j, j < i → 0 ≤ l.getD j 0 ∧ l.getD j 0 < 10) → (-(2 * M) ≤ l.getD i 0 ∧ l.getD i 0 ≤ 2 * M) → (∀ j, i < j → -M ≤ l.getD j 0 ∧ l.getD j 0 ≤ M) → valI 10 l = V →
    ∃ l' : List Int, Ev (fun k => impl_carried.l0 k l (i : Int)) l' ∧ (∀ x ∈ l', 0 ≤ x ∧ x < 10) ∧ valI 10 l' = V ∧ 1 ≤ l'.length ∧ l'.length ≤ N + 1 := by
  intro d
  have hdone : ∀ (i : Nat) (l : List Int), i = l.length → l.length ≤ N + 1 → 1 ≤ l.length → (∀ j, j < i → 0 ≤ l.getD j 0 ∧ l.getD j 0 < 10) → valI 10 l = V →
      ∃ l' : List Int, Ev (fun k => impl_carried.l0 k l (i : Int)) l' ∧ (∀ x ∈ l', 0 ≤ x ∧ x < 10) ∧ valI 10 l' = V ∧ 1 ≤ l'.length ∧ l'.length ≤ N + 1 := by
    intro i l hi hl h1 h9 hv
    refine ⟨l, Ev.step (f := fun _ => some l) (fun k => by simp only [impl_carried.l0]; rw [if_neg (by omega)]) (Ev.now _), ?_, hv, h1, hl⟩
    intro x hx
    obtain ⟨j, hj, rfl⟩ := List.getElem_of_mem hx
    have := h9 j (by omega)
    rw [List.getD_eq_getElem?_getD, List.getElem?_eq_getElem hj] at this
    exact this
  induction d with
  | zero =>
    intro i l hd hi hl h1 h9 _ _ hv
    exact hdone i l (by omega) hl h1 h9 hv
  | succ d ih =>
    intro i l hd hi hl h1 h9 hx hM2 hv
    by_cases hlt : i < l.length
    · have hvn := nextC_val l i hlt
      have hnl := nextC_len l i
      have hsplit := valI_split 10 l i (by omega)
      have hlow := valI_range 10 (by omega) (l.take i) (by
        intro x hx
        obtain ⟨j, hj, rfl⟩ := List.getElem_of_mem hx
        have hj2 : j < i := by simp at hj; omega
        have := h9 j hj2
        rw [List.getD_eq_getElem?_getD, List.getElem?_eq_getElem (by omega)] at this
        simpa using this)
      have hti : (l.take i).length = i := by simp; omega
      rw [hti] at hlow
      have hgrow : l.getD i 0 / 10 ≠ 0 ∧ i + 1 = l.length → l.length + 1 ≤ N + 1 := by
        intro hc
        have hdr : valI 10 (l.drop i) = l.getD i 0 := by
          rw [List.drop_eq_getElem_cons hlt, List.drop_eq_nil_of_le (by omega)]
          simp [valI, List.getD_eq_getElem?_getD, List.getElem?_eq_getElem hlt]
        rw [hdr] at hsplit
        have hp := pw10_pos i
        have h0 : 0 ≤ l.getD i 0 := by
          rcases Int.lt_or_le (l.getD i 0) 0 with h | h
          · exfalso
            have : (10 : Int) ^ i * l.getD i 0 ≤ 10 ^ i * (-1) := Int.mul_le_mul_of_nonneg_left (by omega) (by omega)
            omega
          · exact h
        have h10 : 10 ≤ l.getD i 0 := by omega
        have h4 : (10 : Int) ^ i * 10 ≤ 10 ^ i * l.getD i 0 := Int.mul_le_mul_of_nonneg_left h10 (by omega)
        rw [← Int.pow_succ] at h4
        have := pw10_lt (i := i + 1) (j := D) (by omega)
        omega
      have hlen' : (nextC l i).length ≤ N + 1 := by
        rw [hnl]; split
        · rename_i hc; exact hgrow hc
        · exact hl
      have hlen1 : i + 1 ≤ (nextC l i).length ∧ 1 ≤ (nextC l i).length := by rw [hnl]; split <;> omega
      obtain ⟨l', h2, h3⟩ := ih (i + 1) (nextC l i) (by omega) hlen1.1 hlen' hlen1.2
        (by
          intro j hj
          by_cases hji : j = i
          · subst hji; rw [nextC_i l j hlt]; omega
          · rw [nextC_get l i j hlt hji (by omega)]; exact h9 j (by omega))
        (by
          by_cases h5 : i + 1 < (nextC l i).length
          · rw [nextC_i1 l i hlt h5]
            have := hM2 (i + 1) (by omega)
            omega
          · rw [getD_out _ _ (by omega)]; omega)
        (by
          intro j hj
          rw [nextC_get l i j hlt (by omega) (by omega)]
          exact hM2 j (by omega))
        (by rw [hvn]; exact hv)
      refine ⟨l', ?_, h3⟩
      have hy := hM2 (i + 1) (by omega)
      have hround := fun k => impl_carr_round l i hlt (by omega) (by omega) (by omega) k
      obtain ⟨K, hK⟩ := h2
      refine ⟨K + 3, fun n hn => ?_⟩
      obtain ⟨m, rfl⟩ : ∃ m, n = m + 3 := ⟨n - 3, by omega⟩
      show impl_carried.l0 (m + 3) l (i : Int) = some l'
      rw [hround m]
      exact hK m (by omega)
    · exact hdone i l (by omega) hl h1 h9 hv
theorem impl_carried (M : Int) (hM : 10 ≤ M ∧ M ≤ 100000000000) (l : List Int) (D : Nat) (hl : 1 ≤ l.length ∧ l.length ≤ 40000) (hD : D ≤ 40000) (hb : ∀ x ∈ l, -M ≤ x ∧ x ≤ M) (hv : 0 ≤ valI 10 l ∧ valI 10 l < 10 ^ D) :
    ∃ l' : List Int, Ev (fun k => impl_carried.f k l) l' ∧ (∀ x ∈ l', 0 ≤ x ∧ x < 10) ∧ valI 10 l' = valI 10 l ∧ 1 ≤ l'.length ∧ l'.length ≤ max l.length D + 1 := by
  unfold impl_carried.f
  have hget : ∀ j, -M ≤ l.getD j 0 ∧ l.getD j 0 ≤ M := by
    intro j
    by_cases h : j < l.length
    · exact hb _ (getD_mem l j h)
    · rw [getD_out l j (by omega)]; omega
  exact impl_carr_run M hM (max l.length D) D (by omega) (by omega) (valI 10 l) hv (max l.length D + 1) 0 l (by omega) (by omega) (by omega) hl.1 (by omega) (by have := hget 0; omega) (fun j _ => hget j) rfl
theorem impl_in (a b c : Int) : impl_within.f a b c = some (decide (b ≤ a ∧ a ≤ c)) := by
  unfold impl_within.f
  by_cases h : a ≥ b
  · rw [if_pos h]; simp; omega
  · rw [if_neg h]; simp; omega
theorem impl_dig (a : Int) : impl_isDigit.f a = some (decide (48 ≤ a ∧ a ≤ 57)) := by
  unfold impl_isDigit.f
  by_cases h : a ≥ 48
  · rw [if_pos h]; simp; omega
  · rw [if_neg h]; simp; omega
theorem impl_digs_l0 (s : ByteArray) (hs : s.size ≤ 140737488351232) : ∀ (d i : Nat), s.size - i = d → Ev (fun k => impl_areDigits.l0 k s (s.size : Int) i) (digB s i) := by
  intro d
  induction d with
  | zero =>
    intro i hd
    rw [digB_end s i (by omega)]
    exact Ev.step (f := fun _ => some true) (fun k => by simp only [impl_areDigits.l0]; rw [if_neg (by omega)]) (Ev.now _)
  | succ d ih =>
    intro i hd
    by_cases h1 : 48 ≤ bt s i ∧ bt s i ≤ 57
    · rw [digB_yes s i h1]
      exact Ev.step (fun k => by simp only [impl_areDigits.l0]; rw [if_pos (by omega), if_pos (by omega), if_pos (by omega), impl_dig]; simp only [Option.bind_some]; rw [if_pos (decide_eq_true h1), w64 (by omega) (by omega)]; rfl) (ih (i + 1) (by omega))
    · rw [digB_no s i (by omega) (by omega)]
      exact Ev.step (f := fun _ => some false) (fun k => by simp only [impl_areDigits.l0]; rw [if_pos (by omega), if_pos (by omega), if_pos (by omega), impl_dig]; simp only [Option.bind_some]; rw [if_neg (by simpa using h1)]) (Ev.now _)
theorem impl_digs (s : ByteArray) (hs : s.size ≤ 140737488351232) : Ev (fun k => impl_areDigits.f k s) (digB s 0) := by
  unfold impl_areDigits.f; exact impl_digs_l0 s hs s.size 0 (by omega)
theorem impl_fig (s : ByteArray) (hs : s.size ≤ 140737488351232) : Ev (fun k => impl_FiguresOk.f k s) (figOk s) := by
  unfold impl_FiguresOk.f
  rw [impl_in]
  simp only [Option.bind_some]
  by_cases h1 : 1 ≤ s.size ∧ s.size ≤ 800
  · have e1 : decide ((1 : Int) ≤ (s.size : Int) ∧ (s.size : Int) ≤ 800) = true := decide_eq_true (by omega)
    simp only [e1, if_true]
    refine Ev.bind (impl_digs s hs) ?_
    by_cases h2 : digB s 0 = true
    · simp only [h2, if_true, if_pos (show (0 : Int) < (s.size : Int) by omega)]
      by_cases h3 : bt s 0 = 48
      · simp only [if_pos h3]
        have e : figOk s = ((s.size : Int) == 1) := by
          unfold figOk
          by_cases h4 : s.size = 1
          · simp [h2, h3, h4]
          · have h5 : ¬ (s.size : Int) = 1 := by omega
            have h6 : 1 < s.size := by omega
            simp [h2, h3, h5, h6]
        rw [e]; exact Ev.now _
      · simp only [if_neg h3]
        have e : figOk s = true := by unfold figOk; simp [h2, h3, h1]
        rw [e]; exact Ev.now _
    · simp only [if_neg h2]
      have e : figOk s = false := by unfold figOk; simp [h2]
      rw [e]; exact Ev.now _
  · have e1 : decide ((1 : Int) ≤ (s.size : Int) ∧ (s.size : Int) ≤ 800) = false := decide_eq_false (by omega)
    have e : figOk s = false := by unfold figOk; rw [decide_eq_false h1]; rfl
    simp only [e1, e]
    exact Ev.now _
theorem impl_right (v : Nat) (hs : (decN v).size ≤ 140737488351232) : Ev (fun k => impl_right.f k (decN v)) (fitsT v) := by
  unfold impl_right.f fitsT
  refine Ev.bind (impl_fig _ hs) ?_
  rw [figOk_decN]
  by_cases h : (decN v).size ≤ 800
  · rw [decide_eq_true h, if_pos h]; exact Ev.now _
  · rw [decide_eq_false h, if_neg h]; exact Ev.now _
theorem decN_small (v : Nat) (h : v < 10 ^ 100000) : (decN v).size ≤ 140737488351232 := by
  have := (decN_size v 100000 (by omega)).2 h; omega
theorem valI_nonneg_le (l : List Int) (n : Nat) (hl : l.length ≤ n) (h : ∀ x ∈ l, 0 ≤ x ∧ x < 10) : 0 ≤ valI 10 l ∧ valI 10 l < 10 ^ n := by
  have h1 := valI_range 10 (by omega) l h
  have h2 : (10 : Int) ^ l.length ≤ 10 ^ n := by
    rw [pw10, pw10]
    have := Nat.pow_le_pow_right (n := 10) (by omega) hl
    omega
  omega
/-- The tail of 'summed': from the place i on. -/
theorem impl_sum_l1x (t : Int) (ht : t = 1 ∨ t = -1) (Y : List Int) (hY : ∀ x ∈ Y, 0 ≤ x ∧ x < 10) (hYl : Y.length ≤ 1000) (V : Int) (hV : 0 ≤ V ∧ V < 10 ^ 2000) :
    ∀ (d i : Nat) (x : List Int), Y.length - i = d → i ≤ Y.length → 1 ≤ x.length → x.length ≤ 2000 → Y.length ≤ x.length → (∀ z ∈ x, -100 ≤ z ∧ z ≤ 100) → (∀ j, i ≤ j → 0 ≤ x.getD j 0 ∧ x.getD j 0 < 10) → valI 10 x + t * (valI 10 Y - valI 10 (Y.take i)) = V →
    Ev (fun k => impl_summed.l1 k t x Y (Y.length : Int) (i : Int)) (decN V.toNat) := by
  intro d
  induction d with
  | zero =>
    intro i x hd hi h1 hl hly hb hj hv
    obtain rfl : i = Y.length := by omega
    rw [List.take_of_length_le (by omega), Int.sub_self, Int.mul_zero, Int.add_zero] at hv
    obtain ⟨l', hc, h9, hvl, hl1, hl2⟩ := impl_carried 100 (by omega) x 2000 ⟨h1, by omega⟩ (by omega) hb (by rw [hv]; exact hV)
    rw [hv] at hvl
    have hf := impl_figuresOf l' hl1 (by omega) h9
    rw [hvl] at hf
    exact Ev.step (fun k => by simp only [impl_summed.l1]; rw [if_neg (by omega)]) (Ev.bind hc (Ev.bind hf (Ev.now _)))
  | succ d ih =>
    intro i x hd hi h1 hl hly hb hj hv
    have hx := hj i (by omega)
    have hy := hY _ (getD_mem Y i (by omega))
    have hvs := valI_set 10 (x.getD i 0 + t * Y.getD i 0) x i (by omega)
    have hvt := valI_take_succ 10 Y i (by omega)
    have hb1 : -9 ≤ t * Y.getD i 0 ∧ t * Y.getD i 0 ≤ 9 := by rcases ht with rfl | rfl <;> omega
    refine Ev.step (fun k => ?_) (ih (i + 1) (x.set i (x.getD i 0 + t * Y.getD i 0)) (by omega) (by omega) (by simp; omega) (by simp; omega) (by simp; omega) (by
      intro z hz
      rcases List.mem_or_eq_of_mem_set hz with e | e
      · exact hb z e
      · omega) (by
      intro j hj2
      rw [getD_set_ne x i j _ (by omega)]
      exact hj j (by omega)) (by
      rw [hvs, hvt, show x.getD i 0 + t * Y.getD i 0 - x.getD i 0 = t * Y.getD i 0 by omega]
      rw [← hv]
      grind))
    simp only [impl_summed.l1]
    rw [if_pos (by omega), if_pos (by omega), if_pos (by omega), if_pos (by omega), rd_nat, rd_nat, w64 (x := t * Y.getD i 0) (by omega) (by omega), w64 (by omega) (by omega), Int.toNat_natCast, w64s (by omega)]
theorem impl_sum_l0x (t : Int) (ht : t = 1 ∨ t = -1) (Y : List Int) (hY : ∀ x ∈ Y, 0 ≤ x ∧ x < 10) (hYl : Y.length ≤ 1000) (V : Int) (hV : 0 ≤ V ∧ V < 10 ^ 2000) :
    ∀ (d : Nat) (x : List Int), Y.length - x.length = d → 1 ≤ x.length → x.length ≤ 1000 → (∀ z ∈ x, 0 ≤ z ∧ z < 10) → valI 10 x + t * valI 10 Y = V →
    Ev (fun k => impl_summed.l0 k t x Y) (decN V.toNat) := by
  intro d
  induction d with
  | zero =>
    intro x hd h1 hl h9 hv
    refine Ev.step (fun k => by simp only [impl_summed.l0]; rw [if_neg (by omega)]; rfl) (impl_sum_l1x t ht Y hY hYl V hV Y.length 0 x (by omega) (by omega) h1 (by omega) (by omega) (fun z hz => by have := h9 z hz; omega) ?_ ?_)
    · intro j _
      by_cases h : j < x.length
      · exact h9 _ (getD_mem x j h)
      · rw [getD_out x j (by omega)]; omega
    · rw [List.take_zero]
      show valI 10 x + t * (valI 10 Y - 0) = V
      rw [Int.sub_zero]; exact hv
  | succ d ih =>
    intro x hd h1 hl h9 hv
    refine Ev.step (fun k => ?_) (ih (x ++ [0]) (by simp; omega) (by simp) (by simp; omega) (by
      intro z hz
      rcases List.mem_append.1 hz with e | e
      · exact h9 z e
      · rw [List.mem_singleton.1 e]; omega) (by
      rw [valI_append]; simp only [valI]; rw [← hv]; grind))
    simp only [impl_summed.l0]
    rw [if_pos (by omega), if_pos (by omega)]
theorem impl_summed (a b : ByteArray) (ha : figOk a = true) (hb : figOk b = true) (t : Int) (ht : t = 1 ∨ t = -1) (hv : 0 ≤ ((valD a.data.toList : Nat) : Int) + t * ((valD b.data.toList : Nat) : Int)) :
    Ev (fun k => impl_summed.f k a b t) (decN (((valD a.data.toList : Nat) : Int) + t * ((valD b.data.toList : Nat) : Int)).toNat) := by
  obtain ⟨a1, a2, a3, _⟩ := figOk_parts a ha
  obtain ⟨b1, b2, b3, _⟩ := figOk_parts b hb
  obtain ⟨X, hX, hXl, hX9, hXv⟩ := impl_digitsOf a (by omega) a3
  obtain ⟨Y, hY, hYl, hY9, hYv⟩ := impl_digitsOf b (by omega) b3
  unfold impl_summed.f
  refine Ev.bind hX (Ev.bind hY ?_)
  have hxr := valI_nonneg_le X 800 (by omega) hX9
  have hyr := valI_nonneg_le Y 800 (by omega) hY9
  have hp : (10 : Int) ^ 800 + 10 ^ 800 ≤ 10 ^ 2000 := by
    have e : (10 : Int) ^ 2000 = 10 ^ 800 * 10 ^ 1200 := by rw [← Int.pow_add]
    have h1 := pw10_pos 800
    have h2 : (2 : Int) ≤ 10 ^ 1200 := by
      rw [pw10]
      have := Nat.pow_le_pow_right (n := 10) (by omega) (show 1 ≤ 1200 by omega)
      omega
    have h3 : (10 : Int) ^ 800 * 2 ≤ 10 ^ 800 * 10 ^ 1200 := Int.mul_le_mul_of_nonneg_left h2 (by omega)
    omega
  rw [← hXv, ← hYv] at hv ⊢
  refine impl_sum_l0x t ht Y hY9 (by omega) _ ⟨hv, ?_⟩ (Y.length - X.length) X rfl (by omega) (by omega) hX9 rfl
  rcases ht with rfl | rfl <;> omega
/-- What GreatAdd tells. -/
def addG (a b : ByteArray) : ByteArray × Bool := if figOk a = true ∧ figOk b = true then fitsT (valD a.data.toList + valD b.data.toList) else (⟨#[]⟩, false)
theorem valD_pow (l : List UInt8) (h : ∀ b ∈ l, isDg b) (n : Nat) (hn : l.length ≤ n) : valD l < 10 ^ n := Nat.lt_of_lt_of_le (valD_lt l h) (Nat.pow_le_pow_right (by omega) hn)
theorem val800 (a : ByteArray) (ha : figOk a = true) : valD a.data.toList < 10 ^ 800 := by
  obtain ⟨a1, a2, a3, _⟩ := figOk_parts a ha
  exact valD_pow _ a3 800 (by rw [size_data]; exact a2)
theorem pow_double (a c : Nat) (h : a + 1 ≤ c) : 10 ^ a + 10 ^ a ≤ 10 ^ c := by
  have h1 := Nat.pow_le_pow_right (n := 10) (by omega) h
  rw [Nat.pow_succ] at h1
  omega
theorem impl_greatAdd (a b : ByteArray) (hsa : a.size ≤ 140737488351232) (hsb : b.size ≤ 140737488351232) : Ev (fun k => impl_GreatAdd.f k a b) (addG a b) := by
  have hj : ∀ (k : Nat) (z : Bool), impl_GreatAdd.j0 (k + 1) a b z = if z = true then (some ((⟨#[]⟩ : ByteArray), false)) else ((impl_summed.f k a b 1).bind fun t182 => ((impl_right.f k t182).bind fun bt183 => (some (bt183.1, bt183.2)))) := fun _ _ => rfl
  have hbad : addG a b = (⟨#[]⟩, false) → Ev (fun k => impl_GreatAdd.j0 k a b true) (addG a b) := by
    intro h; rw [h]
    exact Ev.step (f := fun _ => some (⟨#[]⟩, false)) (fun k => by rw [hj, if_pos rfl]) (Ev.now _)
  unfold impl_GreatAdd.f
  refine Ev.bind (impl_fig a hsa) ?_
  by_cases h1 : figOk a = true
  · simp only [h1, if_true]
    refine Ev.bind (impl_fig b hsb) ?_
    by_cases h2 : figOk b = true
    · rw [h2]
      have e : addG a b = fitsT (valD a.data.toList + valD b.data.toList) := by unfold addG; rw [if_pos ⟨h1, h2⟩]
      have hs := impl_summed a b h1 h2 1 (.inl rfl) (by omega)
      rw [show (((valD a.data.toList : Nat) : Int) + 1 * ((valD b.data.toList : Nat) : Int)).toNat = valD a.data.toList + valD b.data.toList by omega] at hs
      have hsmall := decN_small (valD a.data.toList + valD b.data.toList) (by
        have h3 := val800 a h1
        have h4 := val800 b h2
        have h5 := pow_double 800 100000 (by omega)
        generalize 10 ^ 800 = p at *
        generalize 10 ^ 100000 = q at *
        omega)
      rw [e]
      exact Ev.step (fun k => by rw [hj, if_neg (by simp)]) (Ev.bind hs (Ev.bind (impl_right _ hsmall) (Ev.now _)))
    · rw [Bool.not_eq_true] at h2
      rw [h2]
      exact hbad (by unfold addG; rw [if_neg (fun hh => by rw [h2] at hh; exact absurd hh.2 (by simp))])
  · simp only [if_neg h1]
    exact hbad (by unfold addG; rw [if_neg (fun hh => h1 hh.1)])
theorem bytesLess_val : ∀ (a b : List UInt8), a.length = b.length → (∀ c ∈ a, isDg c) → (∀ c ∈ b, isDg c) → Op.bytesLess a b = decide (valD a < valD b) := by
  intro a
  induction a with
  | nil =>
    intro b hl _ _
    have : b = [] := List.eq_nil_of_length_eq_zero hl.symm
    subst this; rfl
  | cons x a ih =>
    intro b hl ha hb
    cases b with
    | nil => simp at hl
    | cons y b =>
      have hx := ha x (by simp)
      have hy := hb y (by simp)
      have hl' : a.length = b.length := by simpa using hl
      have h1 := ih b hl' (fun c hc => ha c (by simp [hc])) (fun c hc => hb c (by simp [hc]))
      have v1 := valD_lt a (fun c hc => ha c (by simp [hc]))
      have v2 := valD_lt b (fun c hc => hb c (by simp [hc]))
      rw [valD_cons, valD_cons, ← hl']
      rw [← hl'] at v2
      unfold isDg at hx hy
      unfold Op.bytesLess
      generalize 10 ^ a.length = p at *
      by_cases hlt : x.toNat < y.toNat
      · have h2 : (x.toNat - 48) * p + p ≤ (y.toNat - 48) * p := by
          have : (x.toNat - 48 + 1) * p ≤ (y.toNat - 48) * p := Nat.mul_le_mul_right _ (by omega)
          rw [Nat.add_mul, Nat.one_mul] at this
          exact this
        have h3 : x < y := by rw [UInt8.lt_iff_toNat_lt]; exact hlt
        have hd : decide ((x.toNat - 48) * p + valD a < (y.toNat - 48) * p + valD b) = true := decide_eq_true (by omega)
        rw [hd, decide_eq_true h3]; rfl
      · by_cases heq : x = y
        · subst heq
          have hd : decide ((x.toNat - 48) * p + valD a < (x.toNat - 48) * p + valD b) = decide (valD a < valD b) := decide_eq_decide.mpr (by omega)
          have h3 : ¬ x < x := by rw [UInt8.lt_iff_toNat_lt]; omega
          rw [hd, decide_eq_false h3, beq_self_eq_true, h1]; rfl
        · have hgt : y.toNat < x.toNat := by
            have : x.toNat ≠ y.toNat := fun h => heq (UInt8.toNat_inj.mp h)
            omega
          have h2 : (y.toNat - 48) * p + p ≤ (x.toNat - 48) * p := by
            have : (y.toNat - 48 + 1) * p ≤ (x.toNat - 48) * p := Nat.mul_le_mul_right _ (by omega)
            rw [Nat.add_mul, Nat.one_mul] at this
            exact this
          have h3 : ¬ x < y := by rw [UInt8.lt_iff_toNat_lt]; exact hlt
          have hd : decide ((x.toNat - 48) * p + valD a < (y.toNat - 48) * p + valD b) = false := decide_eq_false (by omega)
          rw [hd, decide_eq_false h3, beq_eq_false_iff_ne.mpr heq]; rfl
/-- More figures are a greater number. -/
theorem fig_ge (a : ByteArray) (h : figOk a = true) (h1 : 1 < a.size) : 10 ^ (a.size - 1) ≤ valD a.data.toList := by
  rcases Nat.lt_or_ge (valD a.data.toList) (10 ^ (a.size - 1)) with h2 | h2
  · have h3 := (decN_size (valD a.data.toList) (a.size - 1) (by omega)).2 h2
    rw [figOk_dec a h] at h3; omega
  · exact h2
theorem fig_lt (a : ByteArray) (h : figOk a = true) : valD a.data.toList < 10 ^ a.size := by
  obtain ⟨_, _, h3, _⟩ := figOk_parts a h
  have := valD_lt _ h3
  rw [size_data] at this
  exact this
theorem size_val (a b : ByteArray) (ha : figOk a = true) (hb : figOk b = true) (h : a.size < b.size) : valD a.data.toList < valD b.data.toList := by
  obtain ⟨a1, _, _, _⟩ := figOk_parts a ha
  have h1 := fig_lt a ha
  have h2 := fig_ge b hb (by omega)
  have h3 := Nat.pow_le_pow_right (n := 10) (by omega) (show a.size ≤ b.size - 1 by omega)
  omega
/-- What GreatLess tells. -/
def lessB (a b : ByteArray) : Bool := figOk a && figOk b && (decide (a.size < b.size) || (a.size == b.size && Op.bytesLess a.toList b.toList))
theorem lessB_val (a b : ByteArray) (ha : figOk a = true) (hb : figOk b = true) : lessB a b = decide (valD a.data.toList < valD b.data.toList) := by
  obtain ⟨_, _, a3, _⟩ := figOk_parts a ha
  obtain ⟨_, _, b3, _⟩ := figOk_parts b hb
  unfold lessB
  rw [ha, hb, Bool.true_and, Bool.true_and]
  rcases Nat.lt_trichotomy a.size b.size with h | h | h
  · have := size_val a b ha hb h
    rw [decide_eq_true h, decide_eq_true this]; rfl
  · have hbl := bytesLess_val a.data.toList b.data.toList (by rw [size_data, size_data]; exact h) a3 b3
    rw [ByteArray.toList_eq, ByteArray.toList_eq, hbl, decide_eq_false (show ¬ a.size < b.size by omega), beq_iff_eq.mpr h]; rfl
  · have := size_val b a hb ha h
    have hd : decide (valD a.data.toList < valD b.data.toList) = false := decide_eq_false (by omega)
    rw [hd, decide_eq_false (show ¬ a.size < b.size by omega), beq_eq_false_iff_ne.mpr (show a.size ≠ b.size by omega)]; rfl
/-- What GreatSub tells. -/
def subG (a b : ByteArray) : ByteArray × Bool := if figOk a = true ∧ figOk b = true ∧ lessB a b = false then fitsT (valD a.data.toList - valD b.data.toList) else (⟨#[]⟩, false)
theorem subG_bad1 (a b : ByteArray) (h : ¬ figOk a = true) : subG a b = (⟨#[]⟩, false) := by unfold subG; rw [if_neg (fun hh => h hh.1)]
theorem subG_bad2 (a b : ByteArray) (h : ¬ figOk b = true) : subG a b = (⟨#[]⟩, false) := by unfold subG; rw [if_neg (fun hh => h hh.2.1)]
theorem subG_bad3 (a b : ByteArray) (h : lessB a b = true) : subG a b = (⟨#[]⟩, false) := by unfold subG; rw [if_neg (fun hh => by rw [h] at hh; exact absurd hh.2.2 (by simp))]
theorem subG_good (a b : ByteArray) (ha : figOk a = true) (hb : figOk b = true) (h : lessB a b = false) : subG a b = fitsT (valD a.data.toList - valD b.data.toList) ∧ valD b.data.toList ≤ valD a.data.toList := by
  refine ⟨by unfold subG; rw [if_pos ⟨ha, hb, h⟩], ?_⟩
  rw [lessB_val a b ha hb] at h
  have := of_decide_eq_false h
  omega
theorem impl_less (a b : ByteArray) (ha : a.size ≤ 140737488351232) (hb : b.size ≤ 140737488351232) : Ev (fun k => impl_GreatLess.f k a b) (lessB a b) := by
  unfold impl_GreatLess.f
  refine Ev.bind (impl_fig a ha) ?_
  by_cases h1 : figOk a = true
  · simp only [h1, if_true]
    refine Ev.bind (impl_fig b hb) ?_
    by_cases h2 : figOk b = true
    · simp only [h2, if_true]
      by_cases h3 : a.size < b.size
      · have e : lessB a b = true := by unfold lessB; simp [h1, h2, h3]
        simp only [if_pos (show (a.size : Int) < (b.size : Int) by omega), e]
        exact Ev.now _
      · simp only [if_neg (show ¬ (a.size : Int) < (b.size : Int) by omega)]
        by_cases h4 : a.size = b.size
        · have e : lessB a b = Op.bytesLess a.toList b.toList := by unfold lessB; simp [h1, h2, h4]
          simp only [if_pos (show (a.size : Int) = (b.size : Int) by omega), e]
          exact Ev.now _
        · have e : lessB a b = false := by unfold lessB; simp [h1, h2, h3, h4]
          simp only [if_neg (show ¬ (a.size : Int) = (b.size : Int) by omega), e]
          exact Ev.now _
    · have e : lessB a b = false := by unfold lessB; simp [h2]
      simp only [if_neg h2, e]
      exact Ev.now _
  · have e : lessB a b = false := by unfold lessB; simp [h1]
    simp only [if_neg h1, e]
    exact Ev.now _
theorem impl_greatSub (a b : ByteArray) (hsa : a.size ≤ 140737488351232) (hsb : b.size ≤ 140737488351232) : Ev (fun k => impl_GreatSub.f k a b) (subG a b) := by
  have hj : ∀ (k : Nat) (z : Bool), impl_GreatSub.j0 (k + 1) a b z = if z = true then (some ((⟨#[]⟩ : ByteArray), false)) else ((impl_summed.f k a b (-1)).bind fun t182 => ((impl_right.f k t182).bind fun bt183 => (some (bt183.1, bt183.2)))) := fun _ _ => rfl
  have hbad : subG a b = (⟨#[]⟩, false) → Ev (fun k => impl_GreatSub.j0 k a b true) (subG a b) := by
    intro h; rw [h]
    exact Ev.step (f := fun _ => some (⟨#[]⟩, false)) (fun k => by rw [hj, if_pos rfl]) (Ev.now _)
  unfold impl_GreatSub.f
  refine Ev.bind (impl_fig a hsa) ?_
  by_cases h1 : figOk a = true
  · simp only [h1, if_true]
    refine Ev.bind (impl_fig b hsb) ?_
    by_cases h2 : figOk b = true
    · simp only [h2, if_true]
      refine Ev.bind (impl_less a b hsa hsb) ?_
      by_cases h3 : lessB a b = true
      · rw [h3]; exact hbad (subG_bad3 a b h3)
      · rw [Bool.not_eq_true] at h3
        rw [h3]
        obtain ⟨e, hle⟩ := subG_good a b h1 h2 h3
        have hs := impl_summed a b h1 h2 (-1) (.inr rfl) (by omega)
        rw [show (((valD a.data.toList : Nat) : Int) + -1 * ((valD b.data.toList : Nat) : Int)).toNat = valD a.data.toList - valD b.data.toList by omega] at hs
        have hsmall := decN_small (valD a.data.toList - valD b.data.toList) (by
          have h4 := val800 a h1
          have h5 := pow_double 800 100000 (by omega)
          generalize 10 ^ 800 = p at *
          generalize 10 ^ 100000 = q at *
          omega)
        rw [e]
        exact Ev.step (fun k => by rw [hj, if_neg (by simp)]) (Ev.bind hs (Ev.bind (impl_right _ hsmall) (Ev.now _)))
    · simp only [if_neg h2]
      exact hbad (subG_bad2 a b h2)
  · simp only [if_neg h1]
    exact hbad (subG_bad1 a b h1)
/-- What GreatPower tells. -/
def powG (b n : Int) : ByteArray × Bool := if (2 ≤ b ∧ b ≤ 10) ∧ (0 ≤ n ∧ n ≤ 1100) then fitsT (b.toNat ^ n.toNat) else (⟨#[]⟩, false)
/-- What GreatMul tells. -/
def mulG (a b : ByteArray) : ByteArray × Bool := if figOk a = true ∧ figOk b = true then fitsT (valD a.data.toList * valD b.data.toList) else (⟨#[]⟩, false)
theorem impl_mul_l1 (X Y : List Int) (hY : ∀ x ∈ Y, 0 ≤ x ∧ x < 10) (hlX : X.length ≤ 1000) (hlY : Y.length ≤ 1000) (i : Nat) (hi : i < X.length) (p : Int) (hp : 0 ≤ p ∧ p < 10) (W : Int) :
    ∀ (d k : Nat) (out : List Int), Y.length - k = d → k ≤ Y.length → out.length = X.length + Y.length → (∀ j, 0 ≤ out.getD j 0 ∧ out.getD j 0 ≤ 81 * ((i : Int) + 1)) → (∀ j, i + k ≤ j → out.getD j 0 ≤ 81 * (i : Int)) → valI 10 out = W + p * 10 ^ i * valI 10 (Y.take k) →
    ∃ out' : List Int, out'.length = X.length + Y.length ∧ (∀ j, 0 ≤ out'.getD j 0 ∧ out'.getD j 0 ≤ 81 * ((i : Int) + 1)) ∧ valI 10 out' = W + p * 10 ^ i * valI 10 Y ∧
      ∀ r, Ev (fun n => impl_GreatMul.l0 n Y out' X (X.length : Int) ((i + 1 : Nat) : Int)) r → Ev (fun n => impl_GreatMul.l1 n Y out (i : Int) p X (X.length : Int) (i : Int) Y (Y.length : Int) (k : Int)) r := by
  have hl : ∀ (n : Nat) (out : List Int) (k : Nat), impl_GreatMul.l1 (n + 1) Y out (i : Int) p X (X.length : Int) (i : Int) Y (Y.length : Int) (k : Int) = if (k : Int) < (Y.length : Int) then (if 0 ≤ (k : Int) then (if (k : Int) < (Y.length : Int) then (if 0 ≤ (wrap64 ((i : Int) + k)) then (if (wrap64 ((i : Int) + k)) < (out.length : Int) then (impl_GreatMul.l1 n Y (out.set ((wrap64 ((i : Int) + k)) : Int).toNat (wrap64 ((rd out (wrap64 ((i : Int) + k))) + (wrap64 (p * (rd Y k)))))) i p X (X.length : Int) i Y (Y.length : Int) (wrap64 ((k : Int) + 1))) else (none)) else (none)) else (none)) else (none)) else (impl_GreatMul.l0 n Y out X (X.length : Int) (wrap64 ((i : Int) + 1))) := fun _ _ _ => rfl
  intro d
  induction d with
  | zero =>
    intro k out hd hk hol ho hz hv
    obtain rfl : k = Y.length := by omega
    rw [List.take_of_length_le (by omega)] at hv
    exact ⟨out, hol, ho, hv, fun r hr => Ev.step (fun n => by rw [hl, if_neg (by omega), w64s (by omega)]) hr⟩
  | succ d ih =>
    intro k out hd hk hol ho hz hv
    have hy := hY _ (getD_mem Y k (by omega))
    have hvY := valI_take_succ 10 Y k (by omega)
    have hob := ho (i + k)
    have hob2 := hz (i + k) (by omega)
    have hlt : i + k < out.length := by omega
    have hm0 : 0 ≤ p * Y.getD k 0 := Int.mul_nonneg hp.1 hy.1
    have hm1 : p * Y.getD k 0 ≤ 81 := by
      have := Int.mul_le_mul (show p ≤ 9 by omega) (show Y.getD k 0 ≤ 9 by omega) hy.1 (by omega)
      omega
    have hset := valI_set 10 (out.getD (i + k) 0 + p * Y.getD k 0) out (i + k) hlt
    have hget : ∀ j, (out.set (i + k) (out.getD (i + k) 0 + p * Y.getD k 0)).getD j 0 = if j = i + k then out.getD (i + k) 0 + p * Y.getD k 0 else out.getD j 0 := by
      intro j
      by_cases h : j = i + k
      · subst h; rw [if_pos rfl, getD_set_eq _ _ _ hlt]
      · rw [if_neg h, getD_set_ne _ _ _ _ (fun h2 => h h2.symm)]
    have hv' : valI 10 (out.set (i + k) (out.getD (i + k) 0 + p * Y.getD k 0)) = W + p * 10 ^ i * valI 10 (Y.take (k + 1)) := by
      rw [hset, hvY, hv, show out.getD (i + k) 0 + p * Y.getD k 0 - out.getD (i + k) 0 = p * Y.getD k 0 by omega, Int.pow_add, Int.mul_add]
      generalize (10 : Int) ^ i = q
      generalize (10 : Int) ^ k = u
      generalize Y.getD k 0 = v
      rw [show q * u * (p * v) = p * q * (u * v) by grind]
      omega
    have b1 : -9223372036854775808 ≤ (i : Int) + (k : Int) ∧ (i : Int) + (k : Int) < 9223372036854775808 := by omega
    have b2 : -9223372036854775808 ≤ p * Y.getD k 0 ∧ p * Y.getD k 0 < 9223372036854775808 := by omega
    have b3 : -9223372036854775808 ≤ out.getD (i + k) 0 + p * Y.getD k 0 ∧ out.getD (i + k) 0 + p * Y.getD k 0 < 9223372036854775808 := by omega
    have b5 : k < 9223372036854775807 := by omega
    have f0 : (k : Int) < (Y.length : Int) := by omega
    have f1 : (0 : Int) ≤ (k : Int) := by omega
    have f3 : (0 : Int) ≤ ((i + k : Nat) : Int) := by omega
    have f4 : ((i + k : Nat) : Int) < (out.length : Int) := by omega
    have n1 : Y.length - (k + 1) = d := by omega
    have n2 : k + 1 ≤ Y.length := by omega
    obtain ⟨out', h1, h2, h3, h4⟩ := ih (k + 1) (out.set (i + k) (out.getD (i + k) 0 + p * Y.getD k 0)) n1 n2 (by rw [List.length_set]; exact hol) (by
      intro j
      rw [hget]
      have := ho j
      split <;> omega) (by
      intro j hj
      rw [hget, if_neg (by omega)]
      exact hz j (by omega)) hv'
    refine ⟨out', h1, h2, h3, fun r hr => Ev.step (fun n => ?_) (h4 r hr)⟩
    rw [hl, if_pos f0, if_pos f1, if_pos f0, w64 b1.1 b1.2, show (i : Int) + (k : Int) = ((i + k : Nat) : Int) from rfl, if_pos f3, if_pos f4, rd_nat, rd_nat, w64 b2.1 b2.2, w64 b3.1 b3.2, w64s b5, Int.toNat_natCast]
theorem impl_mul_l0 (X Y : List Int) (hX : ∀ x ∈ X, 0 ≤ x ∧ x < 10) (hY : ∀ x ∈ Y, 0 ≤ x ∧ x < 10) (hX1 : 1 ≤ X.length) (hlX : X.length ≤ 1000) (hlY : Y.length ≤ 1000) (V : Nat) (hV : valI 10 X * valI 10 Y = (V : Int)) (hV2 : (V : Int) < 10 ^ 2000) (hsm : (decN V).size ≤ 140737488351232) :
    ∀ (d i : Nat) (out : List Int), X.length - i = d → i ≤ X.length → out.length = X.length + Y.length → (∀ j, 0 ≤ out.getD j 0 ∧ out.getD j 0 ≤ 81 * (i : Int)) → valI 10 out = valI 10 (X.take i) * valI 10 Y →
    Ev (fun n => impl_GreatMul.l0 n Y out X (X.length : Int) (i : Int)) (fitsT V) := by
  have hl : ∀ (n : Nat) (out : List Int) (i : Nat), impl_GreatMul.l0 (n + 1) Y out X (X.length : Int) (i : Int) = if (i : Int) < (X.length : Int) then (if 0 ≤ (i : Int) then (if (i : Int) < (X.length : Int) then (impl_GreatMul.l1 n Y out i (rd X i) X (X.length : Int) i Y (Y.length : Int) 0) else (none)) else (none)) else ((impl_carried.f n out).bind fun t178 => ((impl_figuresOf.f n t178).bind fun t181 => ((impl_right.f n t181).bind fun bt182 => (some (bt182.1, bt182.2))))) := fun _ _ _ => rfl
  intro d
  induction d with
  | zero =>
    intro i out hd hi hol ho hv
    obtain rfl : i = X.length := by omega
    rw [List.take_of_length_le (by omega), hV] at hv
    obtain ⟨l', hc, h9, hvl, hl1, hl2⟩ := impl_carried 1000000 (by omega) out 2000 ⟨by omega, by omega⟩ (by omega) (by
      intro x hx
      obtain ⟨j, hj, rfl⟩ := List.getElem_of_mem hx
      have := ho j
      rw [List.getD_eq_getElem?_getD, List.getElem?_eq_getElem hj] at this
      simp only [Option.getD_some] at this
      omega) (by rw [hv]; exact ⟨by omega, hV2⟩)
    rw [hv] at hvl
    have hf := impl_figuresOf l' hl1 (by omega) h9
    rw [hvl, Int.toNat_natCast] at hf
    exact Ev.step (fun n => by rw [hl, if_neg (by omega)]) (Ev.bind hc (Ev.bind hf (Ev.bind (impl_right V hsm) (Ev.now _))))
  | succ d ih =>
    intro i out hd hi hol ho hv
    have hx := hX _ (getD_mem X i (by omega))
    have hvX := valI_take_succ 10 X i (by omega)
    obtain ⟨out', h1, h2, h3, h4⟩ := impl_mul_l1 X Y hY hlX hlY i (by omega) (X.getD i 0) hx (valI 10 (X.take i) * valI 10 Y) Y.length 0 out (by omega) (by omega) hol (fun j => by have := ho j; omega) (fun j _ => (ho j).2) (by rw [hv]; simp [valI])
    have h5 := ih (i + 1) out' (by omega) (by omega) h1 (fun j => by have := h2 j; omega) (by rw [h3, hvX, Int.add_mul, Int.mul_comm (10 ^ i)])
    refine Ev.step (fun n => ?_) (h4 _ h5)
    rw [hl, if_pos (by omega), if_pos (by omega), if_pos (by omega), rd_nat]
    rfl
theorem lt_pow_le (v a c : Nat) (h : v < 10 ^ a) (hac : a ≤ c) : v < 10 ^ c := Nat.lt_of_lt_of_le h (Nat.pow_le_pow_right (by omega) hac)
theorem mul_lt_pow (x y a b : Nat) (hx : x < 10 ^ a) (hy : y < 10 ^ b) : x * y < 10 ^ (a + b) := by
  rw [Nat.pow_add]
  exact Nat.mul_lt_mul'' hx hy
theorem int_lt_pow (v c : Nat) (h : v < 10 ^ c) : (v : Int) < 10 ^ c := by
  rw [pw10]
  exact Int.ofNat_lt.2 h
theorem mul_small (a b : ByteArray) (h1 : figOk a = true) (h2 : figOk b = true) : ((valD a.data.toList * valD b.data.toList : Nat) : Int) < 10 ^ 2000 ∧ (decN (valD a.data.toList * valD b.data.toList)).size ≤ 140737488351232 := by
  have hpr := mul_lt_pow _ _ 800 800 (val800 a h1) (val800 b h2)
  exact ⟨int_lt_pow _ 2000 (lt_pow_le _ (800 + 800) 2000 hpr (by omega)), decN_small _ (lt_pow_le _ (800 + 800) 100000 hpr (by omega))⟩
theorem impl_greatMul (a b : ByteArray) (hsa : a.size ≤ 140737488351232) (hsb : b.size ≤ 140737488351232) : Ev (fun k => impl_GreatMul.f k a b) (mulG a b) := by
  have hj : ∀ (k : Nat) (z : Bool), impl_GreatMul.j0 (k + 1) a b z = if z = true then (some ((⟨#[]⟩ : ByteArray), false)) else ((impl_digitsOf.f k a).bind fun t169 => ((impl_digitsOf.f k b).bind fun t172 => (if 0 ≤ (wrap64 ((t169.length : Int) + (t172.length : Int))) then (if (wrap64 ((t169.length : Int) + (t172.length : Int)) : Int).toNat ≤ 35184372088832 then (impl_GreatMul.l0 k t172 (List.replicate (wrap64 ((t169.length : Int) + (t172.length : Int)) : Int).toNat 0) t169 (t169.length : Int) 0) else (none)) else (none)))) := fun _ _ => rfl
  have hbad : mulG a b = (⟨#[]⟩, false) → Ev (fun k => impl_GreatMul.j0 k a b true) (mulG a b) := by
    intro h; rw [h]
    exact Ev.step (f := fun _ => some (⟨#[]⟩, false)) (fun k => by rw [hj, if_pos rfl]) (Ev.now _)
  unfold impl_GreatMul.f
  refine Ev.bind (impl_fig a hsa) ?_
  by_cases h1 : figOk a = true
  · simp only [h1, if_true]
    refine Ev.bind (impl_fig b hsb) ?_
    by_cases h2 : figOk b = true
    · rw [h2]
      have e : mulG a b = fitsT (valD a.data.toList * valD b.data.toList) := by unfold mulG; rw [if_pos ⟨h1, h2⟩]
      obtain ⟨a1, a2, a3, _⟩ := figOk_parts a h1
      obtain ⟨b1, b2, b3, _⟩ := figOk_parts b h2
      obtain ⟨X, hX, hXl, hX9, hXv⟩ := impl_digitsOf a (by omega) a3
      obtain ⟨Y, hY, hYl, hY9, hYv⟩ := impl_digitsOf b (by omega) b3
      rw [e]
      refine Ev.step (fun k => by rw [hj, if_neg (by simp)]) (Ev.bind hX (Ev.bind hY ?_))
      have k1 : -9223372036854775808 ≤ (X.length : Int) + (Y.length : Int) ∧ (X.length : Int) + (Y.length : Int) < 9223372036854775808 := by omega
      have k2 : (0 : Int) ≤ ((X.length + Y.length : Nat) : Int) := by omega
      have k3 : X.length + Y.length ≤ 35184372088832 := by omega
      have k4 : 1 ≤ X.length := by omega
      have k5 : X.length ≤ 1000 := by omega
      have k6 : Y.length ≤ 1000 := by omega
      have hw : wrap64 ((X.length : Int) + (Y.length : Int)) = ((X.length + Y.length : Nat) : Int) := w64 k1.1 k1.2
      have hs := mul_small a b h1 h2
      rw [hw, Int.toNat_natCast]
      simp only [if_pos k2, if_pos k3]
      exact impl_mul_l0 X Y hX9 hY9 k4 k5 k6 (valD a.data.toList * valD b.data.toList) (by rw [hXv, hYv, Int.natCast_mul]) hs.1 hs.2 X.length 0 (List.replicate (X.length + Y.length) 0) (Nat.sub_zero _) (Nat.zero_le _) (by simp) (fun j => by rw [getD_zeros]; exact ⟨Int.le_refl _, by decide⟩) (by rw [valI_zeros]; simp [valI])
    · rw [Bool.not_eq_true] at h2
      rw [h2]
      exact hbad (by unfold mulG; rw [if_neg (fun hh => by rw [h2] at hh; exact absurd hh.2 (by simp))])
  · simp only [if_neg h1]
    exact hbad (by unfold mulG; rw [if_neg (fun hh => h1 hh.1)])
/-- The figures of a number, a nought of 0. -/
def dgz (m : Nat) (s : ByteArray) : ByteArray := if m = 0 then strOfNums [48] ++ s else dgs m s
theorem dgz_small (m : Nat) (s : ByteArray) (h : m < 10) : dgz m s = strOfNums [48 + (m : Int)] ++ s := by
  unfold dgz
  by_cases h0 : m = 0
  · subst h0; rfl
  · rw [if_neg h0, dgs_pos m s h0, show m / 10 = 0 by omega, dgs_zero, show m % 10 = m by omega]
theorem dgz_far (m : Nat) (s : ByteArray) (h : ¬ m < 10) : dgz m s = dgz (m / 10) (strOfNums [48 + ((m % 10 : Nat) : Int)] ++ s) := by
  unfold dgz
  rw [if_neg (by omega), if_neg (by omega), dgs_pos m s (by omega)]
theorem impl_dec_l0 (n : Int) (b : Bool) : ∀ (d m : Nat) (s : ByteArray), m < 10 ^ (d + 1) → m ≤ 9223372036854775808 → s.size + d ≤ 1000 →
    Ev (fun k => impl_Decimal.l0 k n s (if b then -(m : Int) else m)) (sgn (decide (n < 0)) (dgz m s)) := by
  have hr : ∀ (m : Nat) (s : ByteArray) (k : Nat), m ≤ 9223372036854775808 → s.size ≤ 1000 → impl_Decimal.l0 (k + 1) n s (if b then -(m : Int) else m) =
      if m < 10 then some (sgn (decide (n < 0)) (dgz m s)) else impl_Decimal.l0 k n (strOfNums [48 + ((m % 10 : Nat) : Int)] ++ s) (if b then -((m / 10 : Nat) : Int) else ((m / 10 : Nat) : Int)) := by
    intro m s k hm hs
    simp only [impl_Decimal.l0]
    rw [tdiv10 b m, tmod10 b m]
    have hw : wrap64 (if b then -((m / 10 : Nat) : Int) else ((m / 10 : Nat) : Int)) = if b then -((m / 10 : Nat) : Int) else ((m / 10 : Nat) : Int) := by
      apply w64 <;> (cases b <;> simp <;> omega)
    rw [hw, impl_in]
    have hin : decide ((-9 : Int) ≤ (if b then -(m : Int) else m) ∧ (if b then -(m : Int) else m) ≤ 9) = decide (m < 10) := by
      rw [decide_eq_decide]; cases b <;> simp <;> omega
    have htail : ∀ y : ByteArray, y.size ≤ 10 → y = strOfNums [48 + ((m % 10 : Nat) : Int)] → (if decide (m < 10) = true then (if n < 0 then (if 1 + (y ++ s).size ≤ 9223372036854775807 then some ((⟨#[45]⟩ : ByteArray) ++ (y ++ s)) else none) else some (y ++ s)) else impl_Decimal.l0 k n (y ++ s) (if b then -((m / 10 : Nat) : Int) else ((m / 10 : Nat) : Int))) = if m < 10 then some (sgn (decide (n < 0)) (dgz m s)) else impl_Decimal.l0 k n (strOfNums [48 + ((m % 10 : Nat) : Int)] ++ s) (if b then -((m / 10 : Nat) : Int) else ((m / 10 : Nat) : Int)) := by
      intro y hy hyy
      by_cases h1 : m < 10
      · rw [if_pos (decide_eq_true h1), if_pos h1, dgz_small m s h1]
        rw [show m % 10 = m by omega] at hyy
        rw [← hyy]
        unfold sgn
        by_cases h2 : n < 0
        · rw [if_pos h2, if_pos (by rw [ByteArray.size_append]; omega), if_pos (decide_eq_true h2)]
        · rw [if_neg h2, if_neg (by simpa using h2)]
      · rw [if_neg (by simpa using h1), if_neg h1, hyy]
    by_cases hd : b = true ∧ m % 10 ≠ 0
    · obtain ⟨rfl, hd⟩ := hd
      simp only [if_true] at hin htail ⊢
      rw [if_pos (by omega), w64 (x := - -((m % 10 : Nat) : Int)) (by omega) (by omega), Int.neg_neg, w64 (by omega) (by omega), show (48 + ((m % 10 : Nat) : Int)) % 256 = 48 + ((m % 10 : Nat) : Int) by omega]
      simp only [Option.bind_some]
      rw [if_pos (by rw [str_size]; simp; omega), hin]
      exact htail _ (by rw [str_size]; simp) rfl
    · have e : (if b then -((m % 10 : Nat) : Int) else ((m % 10 : Nat) : Int)) = ((m % 10 : Nat) : Int) := by
        cases b
        · rfl
        · simp only [if_true]; have : m % 10 = 0 := by simp at hd; exact hd
          rw [this]; rfl
      rw [e, if_neg (by omega), w64 (by omega) (by omega), show (48 + ((m % 10 : Nat) : Int)) % 256 = 48 + ((m % 10 : Nat) : Int) by omega]
      simp only [Option.bind_some]
      rw [if_pos (by rw [str_size]; simp; omega), hin]
      exact htail _ (by rw [str_size]; simp) rfl
  intro d
  induction d with
  | zero =>
    intro m s h hm hs
    exact Ev.step (f := fun _ => some (sgn (decide (n < 0)) (dgz m s))) (fun k => by rw [hr m s k hm (by omega), if_pos (by simpa using h)]) (Ev.now _)
  | succ d ih =>
    intro m s h hm hs
    by_cases h1 : m < 10
    · exact Ev.step (f := fun _ => some (sgn (decide (n < 0)) (dgz m s))) (fun k => by rw [hr m s k hm (by omega), if_pos h1]) (Ev.now _)
    · rw [dgz_far m s h1]
      exact Ev.step (fun k => by rw [hr m s k hm (by omega), if_neg h1]) (ih (m / 10) (strOfNums [48 + ((m % 10 : Nat) : Int)] ++ s) (by rw [Nat.pow_succ] at h; omega) (by omega) (by rw [ByteArray.size_append, str_size]; simp; omega))
theorem impl_dec (n : Int) (h0 : -9223372036854775808 ≤ n) (h1 : n < 9223372036854775808) : Ev (fun k => impl_Decimal.f k n) (decT n) := by
  unfold impl_Decimal.f
  have h' := impl_dec_l0 n (decide (n < 0)) 19 n.natAbs ⟨#[]⟩ (Nat.lt_of_le_of_lt (show n.natAbs ≤ 9223372036854775808 by omega) (by decide)) (by omega) (by simp [ByteArray.size])
  rw [← signed_of n] at h'
  have e : decT n = sgn (decide (n < 0)) (dgz n.natAbs ⟨#[]⟩) := by
    by_cases h : n = 0
    · subst h; rfl
    · rw [decT_sgn n h]; unfold dgz; rw [if_neg (by omega)]
  rw [e]
  exact h'
theorem fits_up (v w : Nat) (h : v ≤ w) (hf : ¬ (decN v).size ≤ 800) : ¬ (decN w).size ≤ 800 := by
  rw [decN_size _ _ (by omega)] at hf ⊢
  exact fun h2 => hf (Nat.lt_of_le_of_lt h h2)
theorem impl_power_l0 (b n : Nat) (hb : 2 ≤ b ∧ b ≤ 10) (hn : n ≤ 1100) : ∀ (d i : Nat), n - i = d → i ≤ n → (decN (b ^ i)).size ≤ 800 →
    Ev (fun k => impl_GreatPower.l0 k (b : Int) (decN (b ^ i)) (n : Int) (i : Int)) (fitsT (b ^ n)) := by
  have hr : ∀ (k i : Nat) (s : ByteArray), impl_GreatPower.l0 (k + 1) (b : Int) s (n : Int) (i : Int) = if (i : Int) < (n : Int) then ((impl_Decimal.f k b).bind fun t216 => ((impl_GreatMul.f k s t216).bind fun bt217 => (if bt217.2 = true then (impl_GreatPower.l0 k b bt217.1 n (wrap64 ((i : Int) + 1))) else (some ((⟨#[]⟩ : ByteArray), false))))) else (some (s, true)) := fun _ _ _ => rfl
  intro d
  induction d with
  | zero =>
    intro i hd hi hs
    obtain rfl : i = n := by omega
    have e : fitsT (b ^ i) = (decN (b ^ i), true) := by unfold fitsT; rw [if_pos hs]
    rw [e]
    exact Ev.step (f := fun _ => some (decN (b ^ i), true)) (fun k => by rw [hr, if_neg (by omega)]) (Ev.now _)
  | succ d ih =>
    intro i hd hi hs
    have hin : (i : Int) < (n : Int) := by omega
    have hi64 : i < 9223372036854775807 := by omega
    have h0 : -9223372036854775808 ≤ (b : Int) := by omega
    have h1 : (b : Int) < 9223372036854775808 := by omega
    have n1 : n - (i + 1) = d := by omega
    have n2 : i + 1 ≤ n := by omega
    have sb : (decN b).size ≤ 800 := (decN_size b 800 (by omega)).2 (lt_pow_le b 2 800 (Nat.lt_of_le_of_lt hb.2 (by decide)) (by omega))
    have hm := impl_greatMul (decN (b ^ i)) (decT (b : Int)) (Nat.le_trans hs (by omega)) (Nat.le_trans sb (by omega))
    have em : mulG (decN (b ^ i)) (decT (b : Int)) = fitsT (b ^ (i + 1)) := by
      have hd2 : decT (b : Int) = decN b := rfl
      unfold mulG
      rw [hd2, figOk_decN, figOk_decN, if_pos ⟨decide_eq_true hs, decide_eq_true sb⟩, valD_decN, valD_decN, Nat.pow_succ]
    rw [em] at hm
    by_cases hf : (decN (b ^ (i + 1))).size ≤ 800
    · have e : fitsT (b ^ (i + 1)) = (decN (b ^ (i + 1)), true) := by unfold fitsT; rw [if_pos hf]
      rw [e] at hm
      refine Ev.step (fun k => by rw [hr, if_pos hin, w64s hi64]) (Ev.bind (impl_dec (b : Int) h0 h1) (Ev.bind hm ?_))
      simp only [if_true]
      exact ih (i + 1) n1 n2 hf
    · have e : fitsT (b ^ (i + 1)) = (⟨#[]⟩, false) := by unfold fitsT; rw [if_neg hf]
      have e2 : fitsT (b ^ n) = (⟨#[]⟩, false) := by unfold fitsT; rw [if_neg (fits_up _ _ (Nat.pow_le_pow_right (by omega) n2) hf)]
      rw [e] at hm
      rw [e2]
      refine Ev.step (fun k => by rw [hr, if_pos hin, w64s hi64]) (Ev.bind (impl_dec (b : Int) h0 h1) (Ev.bind hm ?_))
      simp only [Bool.false_eq_true, if_false]
      exact Ev.now _
theorem impl_greatPower (b n : Int) : Ev (fun k => impl_GreatPower.f k b n) (powG b n) := by
  have hj : ∀ (k : Nat) (z : Bool), impl_GreatPower.j0 (k + 1) b n z = if z = true then (some ((⟨#[]⟩ : ByteArray), false)) else (impl_GreatPower.l0 k b (⟨#[49]⟩ : ByteArray) n 0) := fun _ _ => rfl
  have hbad : powG b n = (⟨#[]⟩, false) → Ev (fun k => impl_GreatPower.j0 k b n true) (powG b n) := by
    intro h; rw [h]
    exact Ev.step (f := fun _ => some (⟨#[]⟩, false)) (fun k => by rw [hj, if_pos rfl]) (Ev.now _)
  unfold impl_GreatPower.f
  rw [impl_in]
  simp only [Option.bind_some, impl_in]
  by_cases h1 : 2 ≤ b ∧ b ≤ 10
  · rw [decide_eq_true h1]
    simp only [if_true]
    by_cases h2 : 0 ≤ n ∧ n ≤ 1100
    · rw [decide_eq_true h2]
      have e : powG b n = fitsT (b.toNat ^ n.toNat) := by unfold powG; rw [if_pos ⟨h1, h2⟩]
      have o : decN (b.toNat ^ 0) = (⟨#[49]⟩ : ByteArray) := by rw [Nat.pow_zero]; decide +kernel
      have hl := impl_power_l0 b.toNat n.toNat (by omega) (by omega) n.toNat 0 (Nat.sub_zero _) (Nat.zero_le _) (by rw [o]; decide)
      rw [o, show ((b.toNat : Nat) : Int) = b by omega, show ((n.toNat : Nat) : Int) = n by omega] at hl
      rw [e]
      exact Ev.step (f := fun k => impl_GreatPower.l0 k b (⟨#[49]⟩ : ByteArray) n 0) (fun k => by rw [hj, if_neg (by simp)]) hl
    · rw [decide_eq_false h2]
      exact hbad (by unfold powG; rw [if_neg (fun hh => h2 hh.2)])
  · rw [decide_eq_false h1]
    exact hbad (by unfold powG; rw [if_neg (fun hh => h1 hh.1)])
theorem size_add (A B m : Nat) (ha : (decN A).size ≤ m) (hb : (decN B).size ≤ m) (hm : 1 ≤ m) : (decN (A + B)).size ≤ m + 1 := by
  rw [decN_size _ _ hm] at ha hb
  rw [decN_size _ _ (by omega), Nat.pow_succ]
  omega
theorem size_mul (A B m n : Nat) (ha : (decN A).size ≤ m) (hb : (decN B).size ≤ n) (hm : 1 ≤ m) (hn : 1 ≤ n) : (decN (A * B)).size ≤ m + n := by
  rw [decN_size _ _ hm] at ha
  rw [decN_size _ _ hn] at hb
  rw [decN_size _ _ (by omega)]
  exact mul_lt_pow _ _ _ _ ha hb
theorem fits_ok (v : Nat) (h : (decN v).size ≤ 800) : fitsT v = (decN v, true) := by unfold fitsT; rw [if_pos h]
theorem fig_ok (v : Nat) (h : (decN v).size ≤ 800) : figOk (decN v) = true := by rw [figOk_decN, decide_eq_true h]
theorem addG_dec (A B : Nat) (ha : (decN A).size ≤ 800) (hb : (decN B).size ≤ 800) (h : (decN (A + B)).size ≤ 800) : addG (decN A) (decN B) = (decN (A + B), true) := by
  unfold addG
  rw [if_pos ⟨fig_ok A ha, fig_ok B hb⟩, valD_decN, valD_decN, fits_ok _ h]
theorem mulG_dec (A B : Nat) (ha : (decN A).size ≤ 800) (hb : (decN B).size ≤ 800) (h : (decN (A * B)).size ≤ 800) : mulG (decN A) (decN B) = (decN (A * B), true) := by
  unfold mulG
  rw [if_pos ⟨fig_ok A ha, fig_ok B hb⟩, valD_decN, valD_decN, fits_ok _ h]
theorem lessB_dec (A B : Nat) (ha : (decN A).size ≤ 800) (hb : (decN B).size ≤ 800) : lessB (decN A) (decN B) = decide (A < B) := by
  rw [lessB_val _ _ (fig_ok A ha) (fig_ok B hb), valD_decN, valD_decN]
theorem subG_dec (A B : Nat) (ha : (decN (A + B)).size ≤ 800) (hb : (decN B).size ≤ 800) (h : (decN A).size ≤ 800) : subG (decN (A + B)) (decN B) = (decN A, true) := by
  have hl : lessB (decN (A + B)) (decN B) = false := by rw [lessB_dec _ _ ha hb]; exact decide_eq_false (by omega)
  rw [(subG_good _ _ (fig_ok _ ha) (fig_ok _ hb) hl).1, valD_decN, valD_decN, Nat.add_sub_cancel, fits_ok _ h]
theorem seven_size (n : Nat) (hn : n ≤ 200) : (decN (7 ^ n)).size ≤ 800 := by
  rw [decN_size _ _ (by omega)]
  have h1 : 7 ^ n ≤ 10 ^ n := Nat.pow_le_pow_left (by omega) n
  have h2 : 10 ^ n < 10 ^ (n + 1) := Nat.pow_lt_pow_right (by omega) (by omega)
  exact lt_pow_le _ (n + 1) 800 (Nat.lt_of_le_of_lt h1 h2) (by omega)
theorem seven (n : Nat) (hn : n ≤ 200) : powG 7 (n : Int) = (decN (7 ^ n), true) := by
  unfold powG
  rw [if_pos ⟨⟨by omega, by omega⟩, by omega, by omega⟩, Int.toNat_natCast]
  exact fits_ok _ (seven_size n hn)
theorem place_seven (n : Int) (h0 : 0 ≤ n) (_h1 : n < 10000) : ∃ N : Nat, N < 200 ∧ Int.tmod n 200 = (N : Int) ∧ wrap64 (Int.tmod n 200 + 1) = ((N + 1 : Nat) : Int) := by
  refine ⟨(n % 200).toNat, by omega, by rw [tmodN h0]; omega, ?_⟩
  rw [tmodN h0, w64 (by omega) (by omega)]
  omega
theorem up800 {a m : Nat} (h : a ≤ m) (hm : m ≤ 130) : a ≤ 800 := by omega
theorem upFar {a : Nat} (h : a ≤ 800) : a ≤ 140737488351232 := by omega
theorem FnGreats : laws_FnGreats.Pure := by
  intro l _ hl _
  rw [Nat.mul_one] at hl
  refine Ev.rounds ?_
  unfold laws_FnGreats.f laws_big.f
  simp only [Option.bind_some]
  by_cases hb : (l.length : Int) > 1048576
  · rw [decide_eq_true hb]
    simp only [if_true]
    exact Ev.now true
  · rw [decide_eq_false hb]
    simp only [Bool.false_eq_true, if_false]
    obtain ⟨A, B, e, zA, zB⟩ := spec_greats l hl
    obtain ⟨L, eL, hL, h9⟩ := spec_places l hl
    have o1 : decN 1 = (⟨#[49]⟩ : ByteArray) := by decide +kernel
    have o7 : decN 7 = (⟨#[55]⟩ : ByteArray) := by decide +kernel
    have z1 : (decN 1).size ≤ 60 := by rw [o1]; decide
    have z7 : (decN 7).size ≤ 60 := by rw [o7]; decide
    obtain ⟨N, q3, q1, q2⟩ := place_seven (L.getD 0 0) (h9 _ (getD_mem L 0 (by omega))).1 (h9 _ (getD_mem L 0 (by omega))).2
    have hn0 : rd L 0 = L.getD 0 0 := rd_nat L 0
    have hL0 : (0 : Int) < (L.length : Int) := by omega
    rw [← hn0] at q1 q2
    rw [q1] at q2
    have zAB := up800 (size_add A B 60 zA zB (by omega)) (by omega)
    have zM' := size_mul A B 60 60 zA zB (by omega) (by omega)
    have zM := up800 zM' (by omega)
    have zB1' := size_add B 1 60 zB z1 (by omega)
    have zB1 := up800 zB1' (by omega)
    have zM1 := up800 (size_mul A (B + 1) 60 61 zA zB1' (by omega) (by omega)) (by omega)
    have zA120 : (decN A).size ≤ 120 := Nat.le_trans zA (by omega)
    have zMA := up800 (size_add (A * B) A 120 zM' zA120 (by omega)) (by omega)
    have yA := up800 zA (by omega)
    have yB := up800 zB (by omega)
    have y1 := up800 z1 (by omega)
    have y7 := up800 z7 (by omega)
    have zN := seven_size N (Nat.le_of_lt q3)
    have zN1 := seven_size (N + 1) q3
    have s1 : addG (decN A) (decN B) = (decN (A + B), true) := addG_dec A B yA yB zAB
    have s2 : subG (decN (A + B)) (decN B) = (decN A, true) := subG_dec A B zAB yB yA
    have s3 : mulG (decN A) (decN B) = (decN (A * B), true) := mulG_dec A B yA yB zM
    have s4 : addG (decN B) (decN 1) = (decN (B + 1), true) := addG_dec B 1 yB y1 zB1
    have s5 : mulG (decN A) (decN (B + 1)) = (decN (A * (B + 1)), true) := mulG_dec A (B + 1) yA zB1 zM1
    have s6 : addG (decN (A * B)) (decN A) = (decN (A * B + A), true) := addG_dec (A * B) A zM yA zMA
    have s7 : mulG (decN (7 ^ N)) (decN 7) = (decN (7 ^ (N + 1)), true) := mulG_dec (7 ^ N) 7 zN y7 zN1
    have c1 := impl_greatAdd (decN A) (decN B) (upFar yA) (upFar yB)
    have c2 := impl_greatSub (decN (A + B)) (decN B) (upFar zAB) (upFar yB)
    have c3 := impl_greatMul (decN A) (decN B) (upFar yA) (upFar yB)
    have c4 := impl_greatAdd (decN B) (decN 1) (upFar yB) (upFar y1)
    have c5 := impl_greatMul (decN A) (decN (B + 1)) (upFar yA) (upFar zB1)
    have c6 := impl_greatAdd (decN (A * B)) (decN A) (upFar zM) (upFar yA)
    have c7 := impl_greatMul (decN (7 ^ N)) (decN 7) (upFar zN) (upFar y7)
    have p1 := impl_greatPower 7 (N : Int)
    have p2 := impl_greatPower 7 ((N + 1 : Nat) : Int)
    have l1 := impl_less (decN A) (decN B) (upFar yA) (upFar yB)
    have l2 := impl_less (decN B) (decN A) (upFar yB) (upFar yA)
    have f1 := impl_fig (decN A) (upFar yA)
    have f2 := impl_fig (decN (A + B)) (upFar zAB)
    have f3 := impl_fig (decN (A * B)) (upFar zM)
    rw [s1] at c1
    rw [s2] at c2
    rw [s3] at c3
    rw [s4] at c4
    rw [s5] at c5
    rw [s6] at c6
    rw [s7] at c7
    rw [seven N (Nat.le_of_lt q3)] at p1
    rw [seven (N + 1) q3] at p2
    rw [lessB_dec A B yA yB] at l1
    rw [lessB_dec B A yB yA] at l2
    rw [fig_ok A yA] at f1
    rw [fig_ok (A + B) zAB] at f2
    rw [fig_ok (A * B) zM] at f3
    rw [o1] at c4
    rw [o7] at c7
    clear s1 s2 s3 s4 s5 s6 s7 zAB zM' zM zB1 zB1' zM1 zA120 zMA yA yB y1 y7 zN zN1 zA zB h9 o1 o7 z1 z7
    refine Ev.bind e (Ev.bind c1 (Ev.bind c2 (Ev.bind c3 (Ev.bind c4 (Ev.bind c5 (Ev.bind c6 (Ev.bind eL ?_)))))))
    simp only [if_pos hL0, q1, q2]
    refine Ev.bind p1 (Ev.bind p2 (Ev.bind c7 (Ev.bind l1 (Ev.bind f1 ?_))))
    simp only [if_true]
    refine Ev.bind f2 ?_
    simp only [if_true]
    refine Ev.bind f3 ?_
    have e1 : decN (A * (B + 1)) = decN (A * B + A) := by rw [Nat.mul_add, Nat.mul_one]
    by_cases hlt : A < B
    · rw [decide_eq_true hlt]
      rw [decide_eq_false (show ¬ B < A by omega)] at l2
      refine Ev.step (f := fun k => (impl_GreatLess.f k (decN B) (decN A)).bind fun t312 => (if t312 = true then (some false) else (some true))) (fun k => ?_) (Ev.bind l2 (Ev.now _))
      simp only [laws_FnGreats.j0, e1, if_true, Bool.not_true, Bool.false_eq_true, if_false]
    · rw [decide_eq_false hlt]
      refine Ev.step (f := fun k => (impl_GreatLess.f k (decN B) (decN A)).bind fun t313 => (if t313 = true then (some true) else (some ((decN A).toList == (decN B).toList)))) (fun k => ?_) (Ev.bind l2 ?_)
      · simp only [laws_FnGreats.j0, e1, if_true, Bool.not_true, Bool.false_eq_true, if_false]
      · by_cases h2 : B < A
        · rw [decide_eq_true h2]; exact Ev.now _
        · rw [decide_eq_false h2, show A = B by omega]
          simp only [Bool.false_eq_true, if_false, beq_self_eq_true]
          exact Ev.now _
end Go.Proofs.Ythbbdnicpbbnpaa.Pure
