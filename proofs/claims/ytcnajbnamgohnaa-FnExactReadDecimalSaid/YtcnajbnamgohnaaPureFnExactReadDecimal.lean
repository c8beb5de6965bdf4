/- At every text of at most 2^20 bytes the program's ReadDecimal and the reference's tell the same. No condition but the statement's own. -/
import Derived.Test.YtcnajbnamgohnaaMFnExactReadDecimalx2
import Derived.Test.YtcnajbnamgohnaaCB
namespace Go.Proofs.Ytcnajbnamgohnaa.Pure
open Go.RowKit Go.Proofs.Ytcnajbnamgohnaa.MFnExactReadDecimal Go.Proofs.YtcnajbnamgohnaaW.PrintWords Go.Proofs.YtcnajbnamgohnaaW.PrintLast Go.Proofs.Ytcnajbnamgohnaa.CB
/-- The figures of a number, ahead of a text; nothing of 0. -/
def dgs (m : Nat) (s : ByteArray) : ByteArray := if m = 0 then s else dgs (m / 10) (strOfNums [48 + ((m % 10 : Nat) : Int)] ++ s)
termination_by m
decreasing_by omega
theorem dgs_zero (s : ByteArray) : dgs 0 s = s := by rw [dgs]; rfl
theorem dgs_pos (m : Nat) (s : ByteArray) (h : m ≠ 0) : dgs m s = dgs (m / 10) (strOfNums [48 + ((m % 10 : Nat) : Int)] ++ s) := by rw [dgs, if_neg h]
/-- What Decimal tells. -/
def decT (n : Int) : ByteArray := if n = 0 then ⟨#[48]⟩ else if n < 0 then ⟨#[45]⟩ ++ dgs n.natAbs ⟨#[]⟩ else dgs n.natAbs ⟨#[]⟩
def sgn (b : Bool) (s : ByteArray) : ByteArray := if b = true then ⟨#[45]⟩ ++ s else s
theorem decT_sgn (n : Int) (h : n ≠ 0) : decT n = sgn (decide (n < 0)) (dgs n.natAbs ⟨#[]⟩) := by
  unfold decT sgn; rw [if_neg h]; by_cases h1 : n < 0 <;> simp [h1]
theorem dgs_size : ∀ (d m : Nat) (s : ByteArray), m < 10 ^ d → (dgs m s).size ≤ s.size + d := by
  intro d
  induction d with
  | zero => intro m s h; obtain rfl : m = 0 := by omega
            rw [dgs_zero]; omega
  | succ d ih =>
    intro m s h
    by_cases h0 : m = 0
    · subst h0; rw [dgs_zero]; omega
    · rw [dgs_pos m s h0]
      have := ih (m / 10) (strOfNums [48 + ((m % 10 : Nat) : Int)] ++ s) (by rw [Nat.pow_succ] at h; omega)
      rw [ByteArray.size_append, str_size] at this
      simp only [List.length_cons, List.length_nil] at this; omega
theorem tdiv10 (b : Bool) (m : Nat) : Int.tdiv (if b then -(m : Int) else m) 10 = if b then -((m / 10 : Nat) : Int) else ((m / 10 : Nat) : Int) := by
  cases b with
  | false => simp only [Bool.false_eq_true, if_false]; rw [tdivN (Int.natCast_nonneg m)]; rfl
  | true => simp only [if_true]; rw [Int.neg_tdiv, tdivN (Int.natCast_nonneg m)]; rfl
theorem tmod10 (b : Bool) (m : Nat) : Int.tmod (if b then -(m : Int) else m) 10 = if b then -((m % 10 : Nat) : Int) else ((m % 10 : Nat) : Int) := by
  cases b with
  | false => simp only [Bool.false_eq_true, if_false]; rw [tmodN (Int.natCast_nonneg m)]; rfl
  | true => simp only [if_true]; rw [Int.neg_tmod, tmodN (Int.natCast_nonneg m)]; rfl
theorem signed_of (n : Int) : n = if decide (n < 0) then -(n.natAbs : Int) else (n.natAbs : Int) := by
  by_cases h : n < 0
  · rw [decide_eq_true h]; simp only [if_true]; omega
  · rw [decide_eq_false h]; simp only [Bool.false_eq_true, if_false]; omega
/-- Whole numbers as bytes, and back. -/
def byteOf (n : Int) : UInt8 := UInt8.ofNat n.toNat
def castL (l : List UInt8) : List Int := l.map fun b => (b.toNat : Int)
theorem str_data (l : List Int) : (strOfNums l).data.toList = l.map byteOf := by unfold strOfNums byteOf; simp
theorem byteOf_cast (l : List UInt8) : (castL l).map byteOf = l := by
  unfold castL
  rw [List.map_map]
  conv => rhs; rw [← List.map_id l]
  apply List.map_congr_left
  intro b _
  simp [byteOf]
theorem cast_byteOf : ∀ (l : List Int), (∀ x ∈ l, 0 ≤ x ∧ x < 256) → castL (l.map byteOf) = l := by
  intro l
  induction l with
  | nil => intro _; rfl
  | cons x l ih =>
    intro h
    have hx := h x (by simp)
    have := ih (fun y hy => h y (by simp [hy]))
    unfold castL at this ⊢
    rw [List.map_cons, List.map_cons, this]
    congr 1
    simp [byteOf]; omega
theorem str_cast (l : List UInt8) : (strOfNums (castL l)).data.toList = l := by rw [str_data, byteOf_cast]
theorem byteArray_ext {a b : ByteArray} (h : a.data.toList = b.data.toList) : a = b := by
  cases a; cases b; congr; exact Array.toList_inj.mp h
theorem str_castA (s : ByteArray) : strOfNums (castL s.data.toList) = s := byteArray_ext (str_cast _)
theorem append_data (a b : ByteArray) : (a ++ b).data.toList = a.data.toList ++ b.data.toList := by simp
/-- From place i on a text has figures alone. -/
def digB (s : ByteArray) (i : Nat) : Bool := decide (∀ j : Nat, j < s.size → i ≤ j → 48 ≤ bt s j ∧ bt s j ≤ 57)
theorem digB_end (s : ByteArray) (i : Nat) (h : s.size ≤ i) : digB s i = true := by
  unfold digB; exact decide_eq_true (fun j h1 h2 => by omega)
theorem digB_no (s : ByteArray) (i : Nat) (h : i < s.size) (hb : bt s i < 48 ∨ bt s i > 57) : digB s i = false := by
  unfold digB
  refine decide_eq_false (fun H => ?_)
  have := H i h (Nat.le_refl _); omega
theorem digB_yes (s : ByteArray) (i : Nat) (hb : 48 ≤ bt s i ∧ bt s i ≤ 57) : digB s i = digB s (i + 1) := by
  unfold digB
  rw [decide_eq_decide]
  constructor
  · exact fun H j h1 h2 => H j h1 (by omega)
  · intro H j h1 h2
    rcases Nat.eq_or_lt_of_le h2 with e | e
    · subst e; exact hb
    · exact H j h1 e
/-- Right figures. -/
def figOk (s : ByteArray) : Bool := decide (1 ≤ s.size ∧ s.size ≤ 800) && digB s 0 && !(bt s 0 == 48 && decide (1 < s.size))
/-- The figures of a number as bytes; nothing of 0. The number of figures. -/
def dgL (m : Nat) : List UInt8 := (dgs m ⟨#[]⟩).data.toList
theorem dgs_split (m : Nat) : ∀ s : ByteArray, (dgs m s).data.toList = dgL m ++ s.data.toList := by
  induction m using Nat.strongRecOn with
  | _ m ih =>
    intro s
    by_cases h : m = 0
    · subst h; unfold dgL; rw [dgs_zero, dgs_zero]; rfl
    · unfold dgL
      rw [dgs_pos m s h, dgs_pos m ⟨#[]⟩ h, ih (m / 10) (by omega), ih (m / 10) (by omega), append_data, append_data, List.append_assoc]
      simp
theorem dgL_zero : dgL 0 = [] := by unfold dgL; rw [dgs_zero]
theorem dgL_pos (m : Nat) (h : m ≠ 0) : dgL m = dgL (m / 10) ++ [UInt8.ofNat (48 + m % 10)] := by
  unfold dgL
  rw [dgs_pos m _ h, dgs_split]
  unfold dgL
  congr 1
def valD : List UInt8 → Nat := List.foldl (fun n b => 10 * n + (b.toNat - 48)) 0
theorem valD_snoc (l : List UInt8) (b : UInt8) : valD (l ++ [b]) = 10 * valD l + (b.toNat - 48) := by unfold valD; rw [List.foldl_append]; rfl
def isDg (b : UInt8) : Prop := 48 ≤ b.toNat ∧ b.toNat ≤ 57
theorem snoc_cases {P : List UInt8 → Prop} (h0 : P []) (h1 : ∀ l b, P l → P (l ++ [b])) : ∀ l, P l := by
  intro l
  have : ∀ n (l : List UInt8), l.length = n → P l := by
    intro n
    induction n with
    | zero => intro l hl; rw [List.length_eq_zero_iff] at hl; rw [hl]; exact h0
    | succ n ih =>
      intro l hl
      have hne : l ≠ [] := by intro h; rw [h] at hl; simp at hl
      rw [← List.dropLast_concat_getLast hne]
      exact h1 _ _ (ih _ (by simp; omega))
  exact this l.length l rfl
theorem valD_lt : ∀ l : List UInt8, (∀ b ∈ l, isDg b) → valD l < 10 ^ l.length := by
  refine snoc_cases (fun _ => by simp [valD]) ?_
  intro l b ih h
  have h1 := ih (fun c hc => h c (by simp [hc]))
  have h2 := h b (by simp)
  rw [valD_snoc, List.length_append, List.length_singleton, Nat.pow_succ]
  unfold isDg at h2
  omega
/-- Figures without a nought ahead are those of their number. -/
theorem dgL_valD : ∀ l : List UInt8, (∀ b ∈ l, isDg b) → (∀ b, l.head? = some b → b.toNat ≠ 48) → dgL (valD l) = l := by
  refine snoc_cases (fun _ _ => by simp [valD, dgL_zero]) ?_
  intro l b ih h hh
  have h2 := h b (by simp)
  unfold isDg at h2
  have hpos : valD (l ++ [b]) ≠ 0 := by
    rw [valD_snoc]
    cases l with
    | nil => have := hh b (by simp); simp [valD]; omega
    | cons c l =>
      have hc := hh c (by simp)
      have hd := h c (by simp)
      unfold isDg at hd
      have hge : ∀ (l : List UInt8) (n : Nat), n ≤ List.foldl (fun n (b : UInt8) => 10 * n + (b.toNat - 48)) n l := by
        intro l
        induction l with
        | nil => intro n; exact Nat.le_refl n
        | cons d l ih => intro n; exact Nat.le_trans (show n ≤ 10 * n + (d.toNat - 48) by omega) (ih _)
      have := hge l (10 * 0 + (c.toNat - 48))
      unfold valD
      simp only [List.foldl_cons]
      omega
  rw [dgL_pos _ hpos, valD_snoc, show (10 * valD l + (b.toNat - 48)) / 10 = valD l by omega, show (10 * valD l + (b.toNat - 48)) % 10 = b.toNat - 48 by omega, show 48 + (b.toNat - 48) = b.toNat by omega]
  congr 1
  · refine ih (fun c hc => h c (by simp [hc])) ?_
    intro c hc
    cases l with
    | nil => simp at hc
    | cons d l => exact hh c (by simpa using hc)
  · simp
theorem dgL_len : ∀ (d m : Nat), m < 10 ^ d → (dgL m).length ≤ d := by
  intro d m h
  have := dgs_size d m ⟨#[]⟩ h
  have h2 : (dgL m).length = (dgs m ⟨#[]⟩).size := by unfold dgL; simp
  rw [h2]
  exact Nat.le_trans this (Nat.le_of_eq (Nat.zero_add d))
/-- What Decimal tells of a number that is not below 0, as bytes. -/
theorem decT_pos (n : Nat) (h : n ≠ 0) : (decT (n : Int)).data.toList = dgL n := by
  unfold decT dgL
  rw [if_neg (by omega), if_neg (by omega), Int.natAbs_natCast]
theorem digB_list (s : ByteArray) : digB s 0 = true ↔ ∀ b ∈ s.data.toList, isDg b := by
  unfold digB
  rw [decide_eq_true_iff]
  constructor
  · intro H b hb
    obtain ⟨j, hj, rfl⟩ := List.getElem_of_mem hb
    have := H j (by simpa using hj) (by omega)
    rw [bt_list s j (by simpa using hj)] at this
    unfold isDg; omega
  · intro H j hj _
    rw [bt_list s j hj]
    have := H _ (List.getElem_mem (l := s.data.toList) (by simpa using hj))
    unfold isDg at this; omega
/-- A text is the decimal of its value just when it is right. -/
theorem dec_of_val (s : ByteArray) (hd : ∀ b ∈ s.data.toList, isDg b) : (decT ((valD s.data.toList : Nat) : Int)).toList = s.toList ↔ (1 ≤ s.size ∧ ¬ (bt s 0 = 48 ∧ 1 < s.size)) := by
  rw [ByteArray.toList_eq, ByteArray.toList_eq]
  have hlen : s.data.toList.length = s.size := by simp
  rcases hl : s.data.toList with _ | ⟨b, l⟩
  · rw [hl] at hlen; simp at hlen
    constructor
    · intro h; exact absurd h (by simp [valD, decT])
    · intro h; omega
  · rw [hl] at hlen hd
    have hb : bt s 0 = (b.toNat : Int) := by
      have := bt_list s 0 (by simp at hlen; omega)
      simp only [hl, List.getElem_cons_zero] at this
      exact this
    simp only [List.length_cons] at hlen
    by_cases h0 : b.toNat = 48
    · by_cases h1 : l = []
      · subst h1
        have hv : valD [b] = 0 := by simp [valD, h0]
        rw [hv]
        constructor
        · intro _; simp at hlen; omega
        · intro _
          show [(48 : UInt8)] = [b]
          congr 1
          exact UInt8.toNat_inj.mp h0.symm
      · have hl1 : 1 ≤ l.length := by
          rcases l with _ | ⟨_, _⟩
          · exact absurd rfl h1
          · simp
        constructor
        · intro h
          exfalso
          have hv : valD (b :: l) = valD l := by unfold valD; simp [h0]
          rw [hv] at h
          have hlt := valD_lt l (fun c hc => hd c (by simp [hc]))
          by_cases hz : valD l = 0
          · rw [hz] at h
            have h4 : ([(48 : UInt8)] : List UInt8).length = (b :: l).length := congrArg List.length h
            simp only [List.length_cons, List.length_nil] at h4; omega
          · rw [decT_pos _ hz] at h
            have := congrArg List.length h
            have h3 := dgL_len _ _ hlt
            rw [List.length_cons] at this; omega
        · intro h; omega
    · have hb2 := hd b (by simp)
      unfold isDg at hb2
      have hv := dgL_valD (b :: l) hd (by intro c hc; simp at hc; rw [← hc]; exact h0)
      have hne : valD (b :: l) ≠ 0 := by intro h; rw [h, dgL_zero] at hv; simp at hv
      rw [decT_pos _ hne, hv]
      constructor
      · intro _; omega
      · intro _; rfl
theorem spec_figure10 (x : Nat) (h : x < 10) : spec_l01Figure.f (x : Int) = some (48 + (x : Int)) := by
  unfold spec_l01Figure.f
  rw [if_pos (by omega), w64 (by omega) (by omega), show (48 + (x : Int)) % 256 = 48 + x by omega]
theorem spec_dec_l0 (below b : Bool) : ∀ (d m : Nat) (s : ByteArray), m < 10 ^ d → m ≤ 9223372036854775808 → s.size + d ≤ 1000 →
    Ev (fun k => spec_Decimal.l0 k (if b then -(m : Int) else m) below s) (sgn below (dgs m s)) := by
  have hz : ∀ s : ByteArray, s.size ≤ 1000 → Ev (fun k => spec_Decimal.l0 k (if b then -((0 : Nat) : Int) else ((0 : Nat) : Int)) below s) (sgn below (dgs 0 s)) := by
    intro s hs
    rw [dgs_zero, show (if b then -((0 : Nat) : Int) else ((0 : Nat) : Int)) = 0 by cases b <;> rfl]
    refine Ev.step (f := fun _ => some (sgn below s)) (fun k => ?_) (Ev.now _)
    simp only [spec_Decimal.l0, if_true]
    unfold sgn
    cases below
    · rfl
    · simp only [if_true]; rw [if_pos (by omega)]
  intro d
  induction d with
  | zero => intro m s h hm hs; obtain rfl : m = 0 := by omega
            exact hz s (by omega)
  | succ d ih =>
    intro m s h hm hs
    by_cases h0 : m = 0
    · subst h0; exact hz s (by omega)
    · rw [dgs_pos m s h0]
      have h' := ih (m / 10) (strOfNums [48 + ((m % 10 : Nat) : Int)] ++ s) (by rw [Nat.pow_succ] at h; omega) (by omega) (by rw [ByteArray.size_append, str_size]; simp; omega)
      refine Ev.step (fun k => ?_) h'
      simp only [spec_Decimal.l0]
      rw [tdiv10 b m, tmod10 b m, if_neg (by cases b <;> simp <;> omega)]
      have hw : wrap64 (if b then -((m / 10 : Nat) : Int) else ((m / 10 : Nat) : Int)) = if b then -((m / 10 : Nat) : Int) else ((m / 10 : Nat) : Int) := by
        apply w64 <;> (cases b <;> simp <;> omega)
      rw [hw]
      by_cases hd : b = true ∧ m % 10 ≠ 0
      · obtain ⟨rfl, hd⟩ := hd
        simp only [if_true]
        rw [if_pos (by omega), w64 (by omega) (by omega), Int.neg_neg, spec_figure10 _ (by omega)]
        simp only [Option.bind_some]
        rw [if_pos (by rw [str_size]; simp; omega)]
      · have e : (if b then -((m % 10 : Nat) : Int) else ((m % 10 : Nat) : Int)) = ((m % 10 : Nat) : Int) := by
          cases b
          · rfl
          · simp only [if_true]; have : m % 10 = 0 := by simp at hd; exact hd
            rw [this]; rfl
        rw [e, if_neg (by omega), spec_figure10 _ (by omega)]
        simp only [Option.bind_some]
        rw [if_pos (by rw [str_size]; simp; omega)]
theorem spec_dec (n : Int) (h0 : -9223372036854775808 ≤ n) (h1 : n < 9223372036854775808) : Ev (fun k => spec_Decimal.f k n) (decT n) := by
  unfold spec_Decimal.f
  by_cases h : n = 0
  · subst h
    simp only [if_true]
    have e : decT 0 = ⟨#[48]⟩ := rfl
    rw [e]
    exact Ev.now _
  · simp only [if_neg h]
    rw [decT_sgn n h]
    have h' := spec_dec_l0 (decide (n < 0)) (decide (n < 0)) 20 n.natAbs ⟨#[]⟩ (Nat.lt_of_le_of_lt (show n.natAbs ≤ 9223372036854775808 by omega) (by decide)) (by omega) (by simp [ByteArray.size])
    rw [← signed_of n] at h'
    exact h'
theorem impl_in (a b c : Int) : impl_within.f a b c = some (decide (b ≤ a ∧ a ≤ c)) := by
  unfold impl_within.f
  by_cases h : a ≥ b
  · rw [if_pos h]; simp; omega
  · rw [if_neg h]; simp; omega
/-- What ReadDecimal tells. -/
def readDecT (s : ByteArray) : Int × Bool :=
  if 1 ≤ s.size ∧ s.size ≤ 10 ∧ digB s 0 = true ∧ ¬ (bt s 0 = 48 ∧ 1 < s.size) ∧ valD s.data.toList ≤ 1000000000 then (((valD s.data.toList : Nat) : Int), true) else (0, false)
theorem valD_take (s : ByteArray) (i : Nat) (h : i < s.size) : ∃ b : UInt8, s.data.toList.take (i + 1) = s.data.toList.take i ++ [b] ∧ bt s (i : Int) = (b.toNat : Int) :=
  ⟨s.data.toList[i]'(by simpa using h), List.take_succ_eq_append_getElem (by simpa using h), bt_list s i h⟩
theorem take_dg (s : ByteArray) (i : Nat) (hs : s.size ≤ 10) (hi : i ≤ s.size) (h : ∀ b ∈ s.data.toList.take i, isDg b) : valD (s.data.toList.take i) < 10000000000 := by
  have h1 := valD_lt _ h
  have h2 : (s.data.toList.take i).length = i := by simp; omega
  rw [h2] at h1
  exact Nat.lt_of_lt_of_le h1 (Nat.le_trans (Nat.pow_le_pow_right (n := 10) (by omega) (show i ≤ 10 by omega)) (by decide))
theorem spec_rd_l0 (s : ByteArray) (hs : s.size ≤ 10) : ∀ (d i : Nat), s.size - i = d → i ≤ s.size → (∀ b ∈ s.data.toList.take i, isDg b) →
    Ev (fun k => spec_ReadDecimal.l0 k s ((valD (s.data.toList.take i) : Nat) : Int) (i : Int)) (readDecT s) := by
  intro d
  induction d with
  | zero =>
    intro i hd hi h
    obtain rfl : i = s.size := by omega
    have hv := take_dg s s.size hs (by omega) h
    rw [List.take_of_length_le (by simp)] at h hv ⊢
    have hdig : digB s 0 = true := (digB_list s).2 h
    have hdec := dec_of_val s h
    unfold readDecT
    by_cases h1 : valD s.data.toList > 1000000000
    · rw [if_neg (fun hh => by omega)]
      exact Ev.step (f := fun _ => some (0, false)) (fun k => by simp only [spec_ReadDecimal.l0]; rw [if_neg (by omega), if_pos (by omega)]) (Ev.now _)
    · refine Ev.step (f := fun k => (spec_Decimal.f k ((valD s.data.toList : Nat) : Int)).bind fun t109 => (if t109.toList = s.toList then (some (((valD s.data.toList : Nat) : Int), true)) else (some (0, false)))) (fun k => by simp only [spec_ReadDecimal.l0]; rw [if_neg (by omega), if_neg (by omega)]) ?_
      refine Ev.bind (spec_dec _ (by omega) (by omega)) ?_
      by_cases h2 : (decT ((valD s.data.toList : Nat) : Int)).toList = s.toList
      · have h3 := hdec.1 h2
        simp only [if_pos h2]
        rw [if_pos ⟨h3.1, hs, hdig, h3.2, by omega⟩]
        exact Ev.now _
      · simp only [if_neg h2]
        rw [if_neg (fun hh => h2 (hdec.2 ⟨hh.1, hh.2.2.2.1⟩))]
        exact Ev.now _
  | succ d ih =>
    intro i hd hi h
    obtain ⟨b, ht, hb⟩ := valD_take s i (by omega)
    have hv := take_dg s i hs (by omega) h
    by_cases h1 : 48 ≤ bt s i ∧ bt s i ≤ 57
    · have h' := ih (i + 1) (by omega) (by omega) (by
        rw [ht]; intro c hc
        rcases List.mem_append.1 hc with e | e
        · exact h c e
        · simp at e; rw [e]; unfold isDg; omega)
      rw [ht, valD_snoc] at h'
      refine Ev.step (fun k => ?_) h'
      simp only [spec_ReadDecimal.l0]
      rw [if_pos (by omega), if_pos (by omega), if_neg (by omega), if_neg (by omega), hb, w64 (x := 10 * ((valD (s.data.toList.take i) : Nat) : Int)) (by omega) (by omega), w64 (x := (b.toNat : Int)) (by omega) (by omega),
        w64 (x := 10 * ((valD (s.data.toList.take i) : Nat) : Int) + (b.toNat : Int)) (by omega) (by omega), w64 (by omega) (by omega), w64 (x := (i : Int) + 1) (by omega) (by omega),
        show 10 * ((valD (s.data.toList.take i) : Nat) : Int) + (b.toNat : Int) - 48 = ((10 * valD (s.data.toList.take i) + (b.toNat - 48) : Nat) : Int) by omega]
      rfl
    · have hno : readDecT s = (0, false) := by
        unfold readDecT
        rw [if_neg (fun hh => ?_)]
        have := hh.2.2.1
        have h2 := (digB_list s).1 this b (by
          have : b ∈ s.data.toList.take (i + 1) := by rw [ht]; simp
          exact List.mem_of_mem_take this)
        unfold isDg at h2; omega
      rw [hno]
      by_cases h2 : bt s i < 48
      · exact Ev.step (f := fun _ => some (0, false)) (fun k => by simp only [spec_ReadDecimal.l0]; rw [if_pos (by omega), if_pos (by omega), if_pos h2]) (Ev.now _)
      · exact Ev.step (f := fun _ => some (0, false)) (fun k => by simp only [spec_ReadDecimal.l0]; rw [if_pos (by omega), if_pos (by omega), if_neg h2, if_pos (by omega)]) (Ev.now _)
theorem spec_readDec (s : ByteArray) : Ev (fun k => spec_ReadDecimal.f k s) (readDecT s) := by
  unfold spec_ReadDecimal.f
  by_cases h : s.size ≤ 10
  · simp only [if_neg (show ¬ (s.size : Int) > 10 by omega)]
    exact spec_rd_l0 s h s.size 0 (by omega) (by omega) (by simp)
  · simp only [if_pos (show (s.size : Int) > 10 by omega)]
    have : readDecT s = (0, false) := by unfold readDecT; rw [if_neg (fun hh => h hh.2.1)]
    rw [this]; exact Ev.now _
theorem impl_dig (a : Int) : impl_isDigit.f a = some (decide (48 ≤ a ∧ a ≤ 57)) := by
  unfold impl_isDigit.f
  by_cases h : a ≥ 48
  · rw [if_pos h]; simp; omega
  · rw [if_neg h]; simp; omega
theorem impl_digs_l0 (s : ByteArray) (hs : s.size ≤ 140737488351232) : ∀ (d i : Nat), s.size - i = d → Ev (fun k => impl_areDigits.l0 k s (s.size : Int) i) (digB s i) := by
  intro d
  induction d with
  | zero =>
    intro i hd
    rw [digB_end s i (by omega)]
    exact Ev.step (f := fun _ => some true) (fun k => by simp only [impl_areDigits.l0]; rw [if_neg (by omega)]) (Ev.now _)
  | succ d ih =>
    intro i hd
    by_cases h1 : 48 ≤ bt s i ∧ bt s i ≤ 57
    · rw [digB_yes s i h1]
      exact Ev.step (fun k => by simp only [impl_areDigits.l0]; rw [if_pos (by omega), if_pos (by omega), if_pos (by omega), impl_dig]; simp only [Option.bind_some]; rw [if_pos (decide_eq_true h1), w64 (by omega) (by omega)]; rfl) (ih (i + 1) (by omega))
    · rw [digB_no s i (by omega) (by omega)]
      exact Ev.step (f := fun _ => some false) (fun k => by simp only [impl_areDigits.l0]; rw [if_pos (by omega), if_pos (by omega), if_pos (by omega), impl_dig]; simp only [Option.bind_some]; rw [if_neg (by simpa using h1)]) (Ev.now _)
theorem impl_digs (s : ByteArray) (hs : s.size ≤ 140737488351232) : Ev (fun k => impl_areDigits.f k s) (digB s 0) := by
  unfold impl_areDigits.f; exact impl_digs_l0 s hs s.size 0 (by omega)
theorem impl_rd_l0 (s : ByteArray) (hs : s.size ≤ 10) (h1 : 1 ≤ s.size) (hdig : digB s 0 = true) (hz : ¬ (bt s 0 = 48 ∧ 1 < s.size)) : ∀ (d i : Nat), s.size - i = d → i ≤ s.size →
    Ev (fun k => impl_ReadDecimal.l0 k s ((valD (s.data.toList.take i) : Nat) : Int) (s.size : Int) (i : Int)) (readDecT s) := by
  have hall := (digB_list s).1 hdig
  intro d
  induction d with
  | zero =>
    intro i hd hi
    obtain rfl : i = s.size := by omega
    rw [List.take_of_length_le (by simp)]
    unfold readDecT
    by_cases h2 : valD s.data.toList > 1000000000
    · rw [if_neg (fun hh => by omega)]
      exact Ev.step (f := fun _ => some (0, false)) (fun k => by simp only [impl_ReadDecimal.l0]; rw [if_neg (by omega), if_pos (by omega)]) (Ev.now _)
    · rw [if_pos ⟨h1, hs, hdig, hz, by omega⟩]
      exact Ev.step (f := fun _ => some _) (fun k => by simp only [impl_ReadDecimal.l0]; rw [if_neg (by omega), if_neg (by omega)]) (Ev.now _)
  | succ d ih =>
    intro i hd hi
    obtain ⟨b, ht, hb⟩ := valD_take s i (by omega)
    have hv := take_dg s i hs (by omega) (fun c hc => hall c (List.mem_of_mem_take hc))
    have hbd : isDg b := hall b (List.mem_of_mem_take (i := i + 1) (by rw [ht]; simp))
    unfold isDg at hbd
    have h' := ih (i + 1) (by omega) (by omega)
    rw [ht, valD_snoc] at h'
    refine Ev.step (fun k => ?_) h'
    simp only [impl_ReadDecimal.l0]
    rw [if_pos (by omega), if_pos (by omega), if_pos (by omega), hb, w64 (x := 10 * ((valD (s.data.toList.take i) : Nat) : Int)) (by omega) (by omega), show ((b.toNat : Int) - 48) % 256 = ((b.toNat - 48 : Nat) : Int) by omega,
      w64 (by omega) (by omega), w64 (x := (i : Int) + 1) (by omega) (by omega),
      show 10 * ((valD (s.data.toList.take i) : Nat) : Int) + ((b.toNat - 48 : Nat) : Int) = ((10 * valD (s.data.toList.take i) + (b.toNat - 48) : Nat) : Int) by omega]
    rfl
theorem impl_readDec (s : ByteArray) (hs : s.size ≤ 140737488351232) : Ev (fun k => impl_ReadDecimal.f k s) (readDecT s) := by
  have hj : ∀ (k : Nat) (b : Bool), impl_ReadDecimal.j0 (k + 1) s b = if b = true then (some (0, false)) else (impl_ReadDecimal.l0 k s 0 (s.size : Int) 0) := fun _ _ => rfl
  have hbad : readDecT s = (0, false) → Ev (fun k => impl_ReadDecimal.j0 k s true) (readDecT s) := by
    intro h; rw [h]
    exact Ev.step (f := fun _ => some (0, false)) (fun k => by rw [hj, if_pos rfl]) (Ev.now _)
  unfold impl_ReadDecimal.f
  rw [impl_in]
  simp only [Option.bind_some]
  by_cases h : 1 ≤ s.size ∧ s.size ≤ 10
  · simp only [show decide ((1 : Int) ≤ (s.size : Int) ∧ (s.size : Int) ≤ 10) = true from decide_eq_true (by omega), if_true]
    refine Ev.bind (impl_digs s hs) ?_
    by_cases hd : digB s 0 = true
    · simp only [hd, if_true]
      have hgood : ¬ (bt s 0 = 48 ∧ 1 < s.size) → Ev (fun k => impl_ReadDecimal.j0 k s false) (readDecT s) := by
        intro hz
        exact Ev.step (fun k => by rw [hj, if_neg (by simp)]; rfl) (impl_rd_l0 s h.2 h.1 hd hz s.size 0 (by omega) (by omega))
      by_cases h1 : (s.size : Int) > 1
      · simp only [if_pos h1, if_pos (show (0 : Int) < (s.size : Int) by omega)]
        by_cases h2 : bt s 0 = 48
        · rw [show (bt s 0 == 48) = true by simpa using h2]
          exact hbad (by unfold readDecT; rw [if_neg (fun hh => hh.2.2.2.1 ⟨h2, by omega⟩)])
        · rw [show (bt s 0 == 48) = false by simpa using h2]
          exact hgood (fun hh => h2 hh.1)
      · simp only [if_neg h1]
        exact hgood (fun hh => by omega)
    · simp only [if_neg hd]
      exact hbad (by unfold readDecT; rw [if_neg (fun hh => hd hh.2.2.1)])
  · simp only [show decide ((1 : Int) ≤ (s.size : Int) ∧ (s.size : Int) ≤ 10) = false from decide_eq_false (by omega)]
    exact hbad (by unfold readDecT; rw [if_neg (fun hh => h ⟨hh.1, hh.2.1⟩)])
theorem FnExactReadDecimal : laws_FnExactReadDecimal.Pure := by
  intro s hs
  unfold laws_FnExactReadDecimal.f
  by_cases h : (s.size : Int) > 1048576
  · exact ⟨0, if_pos h⟩
  · simp only [if_neg h]
    exact Ev.rounds (Ev.bind (spec_readDec s) (Ev.bind (impl_readDec s hs) (by simpa using Ev.now true)))
end Go.Proofs.Ytcnajbnamgohnaa.Pure
