/- At every two whole numbers the program's GreatPower and the reference's tell the same. No condition but the statement's own. -/
import Derived.Test.YthbbdnicpbbnpaaMFnExactGreatPowerx4
import Derived.Test.YthbbdnicpbbnpaaCB
namespace Go.Proofs.Ythbbdnicpbbnpaa.Pure
open Go.RowKit Go.Proofs.Ythbbdnicpbbnpaa.MFnExactGreatPower Go.Proofs.YthbbdnicpbbnpaaW.PrintWords Go.Proofs.YthbbdnicpbbnpaaW.PrintLast Go.Proofs.Ythbbdnicpbbnpaa.CB
/-- The value of numbers, the lowest first, to a base. -/
def valI (B : Int) : List Int → Int
  | [] => 0
  | x :: l => x + B * valI B l
theorem valI_append (B : Int) (l m : List Int) : valI B (l ++ m) = valI B l + B ^ l.length * valI B m := by
  induction l with
  | nil => simp [valI]
  | cons x l ih =>
    simp only [List.cons_append, valI, ih, List.length_cons, Int.pow_succ]
    grind
theorem valI_set (B : Int) (v : Int) : ∀ (l : List Int) (i : Nat), i < l.length → valI B (l.set i v) = valI B l + B ^ i * (v - l.getD i 0) := by
  intro l
  induction l with
  | nil => intro i h; simp at h
  | cons x l ih =>
    intro i h
    cases i with
    | zero => simp [valI]; omega
    | succ i =>
      have := ih i (by simpa using h)
      simp only [List.set_cons_succ, valI, this, List.getD_cons_succ, Int.pow_succ]
      grind
theorem valI_take_succ (B : Int) (l : List Int) (i : Nat) (h : i < l.length) : valI B (l.take (i + 1)) = valI B (l.take i) + B ^ i * l.getD i 0 := by
  rw [List.take_succ_eq_append_getElem h, valI_append]
  have : (l.take i).length = i := by simp; omega
  rw [this]
  simp [valI, List.getD_eq_getElem?_getD, List.getElem?_eq_getElem h]
theorem valI_zeros (B : Int) (n : Nat) : valI B (List.replicate n 0) = 0 := by
  induction n with
  | zero => rfl
  | succ n ih => rw [List.replicate_succ]; simp [valI, ih]
theorem valI_split (B : Int) (l : List Int) (i : Nat) (h : i ≤ l.length) : valI B l = valI B (l.take i) + B ^ i * valI B (l.drop i) := by
  conv => lhs; rw [← List.take_append_drop i l]
  rw [valI_append]
  have : (l.take i).length = i := by simp; omega
  rw [this]
theorem valI_range (B : Int) (hB : 0 < B) (l : List Int) (h : ∀ x ∈ l, 0 ≤ x ∧ x < B) : 0 ≤ valI B l ∧ valI B l < B ^ l.length := by
  induction l with
  | nil => simp [valI]
  | cons x l ih =>
    have h1 := h x (by simp)
    have h2 := ih (fun y hy => h y (by simp [hy]))
    simp only [valI, List.length_cons, Int.pow_succ]
    have h3 : 0 ≤ B * valI B l := Int.mul_nonneg (by omega) h2.1
    have h4 : B * valI B l ≤ B * (B ^ l.length - 1) := Int.mul_le_mul_of_nonneg_left (by omega) (by omega)
    have h5 : B * (B ^ l.length - 1) = B ^ l.length * B - B := by grind
    omega
theorem rd_nat (l : List Int) (i : Nat) : rd l (i : Int) = l.getD i 0 := by unfold rd; rw [Int.toNat_natCast]
theorem getD_mem (l : List Int) (i : Nat) (h : i < l.length) : l.getD i 0 ∈ l := by
  rw [List.getD_eq_getElem?_getD, List.getElem?_eq_getElem h]; simp
theorem getD_set_eq (l : List Int) (i : Nat) (v : Int) (h : i < l.length) : (l.set i v).getD i 0 = v := by
  simp [List.getD_eq_getElem?_getD, h]
theorem getD_set_ne (l : List Int) (i j : Nat) (v : Int) (h : i ≠ j) : (l.set i v).getD j 0 = l.getD j 0 := by
  simp [List.getD_eq_getElem?_getD, List.getElem?_set_ne h]
theorem set_last (m : Nat) (z d : Int) (T : List Int) : (List.replicate (m + 1) z ++ T).set m d = List.replicate m z ++ d :: T := by
  rw [List.replicate_succ', List.append_assoc, List.set_append_right _ _ (by simp)]
  simp
theorem getD_out (l : List Int) (i : Nat) (h : l.length ≤ i) : l.getD i 0 = 0 := by rw [List.getD_eq_getElem?_getD, List.getElem?_eq_none h]; rfl
theorem getD_zeros (n j : Nat) : (List.replicate n (0 : Int)).getD j 0 = 0 := by
  by_cases h : j < n
  · rw [List.getD_eq_getElem?_getD, List.getElem?_replicate]; simp [h]
  · rw [getD_out _ _ (by simp; omega)]
/-- The figures of a number, ahead of a text; nothing of 0. -/
def dgs (m : Nat) (s : ByteArray) : ByteArray := if m = 0 then s else dgs (m / 10) (strOfNums [48 + ((m % 10 : Nat) : Int)] ++ s)
termination_by m
decreasing_by omega
theorem dgs_zero (s : ByteArray) : dgs 0 s = s := by rw [dgs]; rfl
theorem dgs_pos (m : Nat) (s : ByteArray) (h : m ≠ 0) : dgs m s = dgs (m / 10) (strOfNums [48 + ((m % 10 : Nat) : Int)] ++ s) := by rw [dgs, if_neg h]
/-- What Decimal tells. -/
def decT (n : Int) : ByteArray := if n = 0 then ⟨#[48]⟩ else if n < 0 then ⟨#[45]⟩ ++ dgs n.natAbs ⟨#[]⟩ else dgs n.natAbs ⟨#[]⟩
def sgn (b : Bool) (s : ByteArray) : ByteArray := if b = true then ⟨#[45]⟩ ++ s else s
theorem decT_sgn (n : Int) (h : n ≠ 0) : decT n = sgn (decide (n < 0)) (dgs n.natAbs ⟨#[]⟩) := by
  unfold decT sgn; rw [if_neg h]; by_cases h1 : n < 0 <;> simp [h1]
theorem dgs_size : ∀ (d m : Nat) (s : ByteArray), m < 10 ^ d → (dgs m s).size ≤ s.size + d := by
  intro d
  induction d with
  | zero => intro m s h; obtain rfl : m = 0 := by omega
            rw [dgs_zero]; omega
  | succ d ih =>
    intro m s h
    by_cases h0 : m = 0
    · subst h0; rw [dgs_zero]; omega
    · rw [dgs_pos m s h0]
      have := ih (m / 10) (strOfNums [48 + ((m % 10 : Nat) : Int)] ++ s) (by rw [Nat.pow_succ] at h; omega)
      rw [ByteArray.size_append, str_size] at this
      simp only [List.length_cons, List.length_nil] at this; omega
theorem tdiv10 (b : Bool) (m : Nat) : Int.tdiv (if b then -(m : Int) else m) 10 = if b then -((m / 10 : Nat) : Int) else ((m / 10 : Nat) : Int) := by
  cases b with
  | false => simp only [Bool.false_eq_true, if_false]; rw [tdivN (Int.natCast_nonneg m)]; rfl
  | true => simp only [if_true]; rw [Int.neg_tdiv, tdivN (Int.natCast_nonneg m)]; rfl
theorem tmod10 (b : Bool) (m : Nat) : Int.tmod (if b then -(m : Int) else m) 10 = if b then -((m % 10 : Nat) : Int) else ((m % 10 : Nat) : Int) := by
  cases b with
  | false => simp only [Bool.false_eq_true, if_false]; rw [tmodN (Int.natCast_nonneg m)]; rfl
  | true => simp only [if_true]; rw [Int.neg_tmod, tmodN (Int.natCast_nonneg m)]; rfl
theorem signed_of (n : Int) : n = if decide (n < 0) then -(n.natAbs : Int) else (n.natAbs : Int) := by
  by_cases h : n < 0
  · rw [decide_eq_true h]; simp only [if_true]; omega
  · rw [decide_eq_false h]; simp only [Bool.false_eq_true, if_false]; omega
/-- Whole numbers as bytes, and back. -/
def byteOf (n : Int) : UInt8 := UInt8.ofNat n.toNat
def castL (l : List UInt8) : List Int := l.map fun b => (b.toNat : Int)
theorem str_data (l : List Int) : (strOfNums l).data.toList = l.map byteOf := by unfold strOfNums byteOf; simp
theorem byteOf_cast (l : List UInt8) : (castL l).map byteOf = l := by
  unfold castL
  rw [List.map_map]
  conv => rhs; rw [← List.map_id l]
  apply List.map_congr_left
  intro b _
  simp [byteOf]
theorem cast_byteOf : ∀ (l : List Int), (∀ x ∈ l, 0 ≤ x ∧ x < 256) → castL (l.map byteOf) = l := by
  intro l
  induction l with
  | nil => intro _; rfl
  | cons x l ih =>
    intro h
    have hx := h x (by simp)
    have := ih (fun y hy => h y (by simp [hy]))
    unfold castL at this ⊢
    rw [List.map_cons, List.map_cons, this]
    congr 1
    simp [byteOf]; omega
theorem str_cast (l : List UInt8) : (strOfNums (castL l)).data.toList = l := by rw [str_data, byteOf_cast]
theorem byteArray_ext {a b : ByteArray} (h : a.data.toList = b.data.toList) : a = b := by
  cases a; cases b; congr; exact Array.toList_inj.mp h
theorem str_castA (s : ByteArray) : strOfNums (castL s.data.toList) = s := byteArray_ext (str_cast _)
theorem append_data (a b : ByteArray) : (a ++ b).data.toList = a.data.toList ++ b.data.toList := by simp
/-- From place i on a text has figures alone. -/
def digB (s : ByteArray) (i : Nat) : Bool := decide (∀ j : Nat, j < s.size → i ≤ j → 48 ≤ bt s j ∧ bt s j ≤ 57)
theorem digB_end (s : ByteArray) (i : Nat) (h : s.size ≤ i) : digB s i = true := by
  unfold digB; exact decide_eq_true (fun j h1 h2 => by omega)
theorem digB_no (s : ByteArray) (i : Nat) (h : i < s.size) (hb : bt s i < 48 ∨ bt s i > 57) : digB s i = false := by
  unfold digB
  refine decide_eq_false (fun H => ?_)
  have := H i h (Nat.le_refl _); omega
theorem digB_yes (s : ByteArray) (i : Nat) (hb : 48 ≤ bt s i ∧ bt s i ≤ 57) : digB s i = digB s (i + 1) := by
  unfold digB
  rw [decide_eq_decide]
  constructor
  · exact fun H j h1 h2 => H j h1 (by omega)
  · intro H j h1 h2
    rcases Nat.eq_or_lt_of_le h2 with e | e
    · subst e; exact hb
    · exact H j h1 e
/-- Right figures. -/
def figOk (s : ByteArray) : Bool := decide (1 ≤ s.size ∧ s.size ≤ 800) && digB s 0 && !(bt s 0 == 48 && decide (1 < s.size))
/-- The figures of a number as bytes; nothing of 0. The number of figures. -/
def dgL (m : Nat) : List UInt8 := (dgs m ⟨#[]⟩).data.toList
theorem dgs_split (m : Nat) : ∀ s : ByteArray, (dgs m s).data.toList = dgL m ++ s.data.toList := by
  induction m using Nat.strongRecOn with
  | _ m ih =>
    intro s
    by_cases h : m = 0
    · subst h; unfold dgL; rw [dgs_zero, dgs_zero]; rfl
    · unfold dgL
      rw [dgs_pos m s h, dgs_pos m ⟨#[]⟩ h, ih (m / 10) (by omega), ih (m / 10) (by omega), append_data, append_data, List.append_assoc]
      simp
theorem dgL_zero : dgL 0 = [] := by unfold dgL; rw [dgs_zero]
theorem dgL_pos (m : Nat) (h : m ≠ 0) : dgL m = dgL (m / 10) ++ [UInt8.ofNat (48 + m % 10)] := by
  unfold dgL
  rw [dgs_pos m _ h, dgs_split]
  unfold dgL
  congr 1
def valD : List UInt8 → Nat := List.foldl (fun n b => 10 * n + (b.toNat - 48)) 0
theorem valD_snoc (l : List UInt8) (b : UInt8) : valD (l ++ [b]) = 10 * valD l + (b.toNat - 48) := by unfold valD; rw [List.foldl_append]; rfl
def isDg (b : UInt8) : Prop := 48 ≤ b.toNat ∧ b.toNat ≤ 57
theorem snoc_cases {P : List UInt8 → Prop} (h0 : P []) (h1 : ∀ l b, P l → P (l ++ [b])) : ∀ l, P l := by
  intro l
  have : ∀ n (l : List UInt8), l.length = n → P l := by
    intro n
    induction n with
    | zero => intro l hl; rw [List.length_eq_zero_iff] at hl; rw [hl]; exact h0
    | succ n ih =>
      intro l hl
      have hne : l ≠ [] := by intro h; rw [h] at hl; simp at hl
      rw [← List.dropLast_concat_getLast hne]
      exact h1 _ _ (ih _ (by simp; omega))
  exact this l.length l rfl
theorem valD_lt : ∀ l : List UInt8, (∀ b ∈ l, isDg b) → valD l < 10 ^ l.length := by
  refine snoc_cases (fun _ => by simp [valD]) ?_
  intro l b ih h
  have h1 := ih (fun c hc => h c (by simp [hc]))
  have h2 := h b (by simp)
  rw [valD_snoc, List.length_append, List.length_singleton, Nat.pow_succ]
  unfold isDg at h2
  omega
/-- Figures without a nought ahead are those of their number. -/
theorem dgL_valD : ∀ l : List UInt8, (∀ b ∈ l, isDg b) → (∀ b, l.head? = some b → b.toNat ≠ 48) → dgL (valD l) = l := by
  refine snoc_cases (fun _ _ => by simp [valD, dgL_zero]) ?_
  intro l b ih h hh
  have h2 := h b (by simp)
  unfold isDg at h2
  have hpos : valD (l ++ [b]) ≠ 0 := by
    rw [valD_snoc]
    cases l with
    | nil => have := hh b (by simp); simp [valD]; omega
    | cons c l =>
      have hc := hh c (by simp)
      have hd := h c (by simp)
      unfold isDg at hd
      have hge : ∀ (l : List UInt8) (n : Nat), n ≤ List.foldl (fun n (b : UInt8) => 10 * n + (b.toNat - 48)) n l := by
        intro l
        induction l with
        | nil => intro n; exact Nat.le_refl n
        | cons d l ih => intro n; exact Nat.le_trans (show n ≤ 10 * n + (d.toNat - 48) by omega) (ih _)
      have := hge l (10 * 0 + (c.toNat - 48))
      unfold valD
      simp only [List.foldl_cons]
      omega
  rw [dgL_pos _ hpos, valD_snoc, show (10 * valD l + (b.toNat - 48)) / 10 = valD l by omega, show (10 * valD l + (b.toNat - 48)) % 10 = b.toNat - 48 by omega, show 48 + (b.toNat - 48) = b.toNat by omega]
  congr 1
  · refine ih (fun c hc => h c (by simp [hc])) ?_
    intro c hc
    cases l with
    | nil => simp at hc
    | cons d l => exact hh c (by simpa using hc)
  · simp
theorem dgL_len : ∀ (d m : Nat), m < 10 ^ d → (dgL m).length ≤ d := by
  intro d m h
  have := dgs_size d m ⟨#[]⟩ h
  have h2 : (dgL m).length = (dgs m ⟨#[]⟩).size := by unfold dgL; simp
  rw [h2]
  exact Nat.le_trans this (Nat.le_of_eq (Nat.zero_add d))
/-- What Decimal tells of a number that is not below 0, as bytes. -/
theorem decT_pos (n : Nat) (h : n ≠ 0) : (decT (n : Int)).data.toList = dgL n := by
  unfold decT dgL
  rw [if_neg (by omega), if_neg (by omega), Int.natAbs_natCast]
theorem digB_list (s : ByteArray) : digB s 0 = true ↔ ∀ b ∈ s.data.toList, isDg b := by
  unfold digB
  rw [decide_eq_true_iff]
  constructor
  · intro H b hb
    obtain ⟨j, hj, rfl⟩ := List.getElem_of_mem hb
    have := H j (by simpa using hj) (by omega)
    rw [bt_list s j (by simpa using hj)] at this
    unfold isDg; omega
  · intro H j hj _
    rw [bt_list s j hj]
    have := H _ (List.getElem_mem (l := s.data.toList) (by simpa using hj))
    unfold isDg at this; omega
/-- A text is the decimal of its value just when it is right. -/
theorem dec_of_val (s : ByteArray) (hd : ∀ b ∈ s.data.toList, isDg b) : (decT ((valD s.data.toList : Nat) : Int)).toList = s.toList ↔ (1 ≤ s.size ∧ ¬ (bt s 0 = 48 ∧ 1 < s.size)) := by
  rw [ByteArray.toList_eq, ByteArray.toList_eq]
  have hlen : s.data.toList.length = s.size := by simp
  rcases hl : s.data.toList with _ | ⟨b, l⟩
  · rw [hl] at hlen; simp at hlen
    constructor
    · intro h; exact absurd h (by simp [valD, decT])
    · intro h; omega
  · rw [hl] at hlen hd
    have hb : bt s 0 = (b.toNat : Int) := by
      have := bt_list s 0 (by simp at hlen; omega)
      simp only [hl, List.getElem_cons_zero] at this
      exact this
    simp only [List.length_cons] at hlen
    by_cases h0 : b.toNat = 48
    · by_cases h1 : l = []
      · subst h1
        have hv : valD [b] = 0 := by simp [valD, h0]
        rw [hv]
        constructor
        · intro _; simp at hlen; omega
        · intro _
          show [(48 : UInt8)] = [b]
          congr 1
          exact UInt8.toNat_inj.mp h0.symm
      · have hl1 : 1 ≤ l.length := by
          rcases l with _ | ⟨_, _⟩
          · exact absurd rfl h1
          · simp
        constructor
        · intro h
          exfalso
          have hv : valD (b :: l) = valD l := by unfold valD; simp [h0]
          rw [hv] at h
          have hlt := valD_lt l (fun c hc => hd c (by simp [hc]))
          by_cases hz : valD l = 0
          · rw [hz] at h
            have h4 : ([(48 : UInt8)] : List UInt8).length = (b :: l).length := congrArg List.length h
            simp only [List.length_cons, List.length_nil] at h4; omega
          · rw [decT_pos _ hz] at h
            have := congrArg List.length h
            have h3 := dgL_len _ _ hlt
            rw [List.length_cons] at this; omega
        · intro h; omega
    · have hb2 := hd b (by simp)
      unfold isDg at hb2
      have hv := dgL_valD (b :: l) hd (by intro c hc; simp at hc; rw [← hc]; exact h0)
      have hne : valD (b :: l) ≠ 0 := by intro h; rw [h, dgL_zero] at hv; simp at hv
      rw [decT_pos _ hne, hv]
      constructor
      · intro _; omega
      · intro _; rfl
/-- A number that is not below 0 in figures. -/
def decN (v : Nat) : ByteArray := decT (v : Int)
theorem decN_of (s : ByteArray) (hd : ∀ b ∈ s.data.toList, isDg b) (h1 : 1 ≤ s.size) (h2 : ¬ (bt s 0 = 48 ∧ 1 < s.size)) : decN (valD s.data.toList) = s := by
  have h := (dec_of_val s hd).2 ⟨h1, h2⟩
  rw [ByteArray.toList_eq, ByteArray.toList_eq] at h
  exact byteArray_ext h
theorem dgL_dg (m : Nat) : ∀ b ∈ dgL m, isDg b := by
  induction m using Nat.strongRecOn with
  | _ m ih =>
    by_cases h : m = 0
    · subst h; rw [dgL_zero]; simp
    · rw [dgL_pos m h]
      intro b hb
      rcases List.mem_append.1 hb with e | e
      · exact ih (m / 10) (by omega) b e
      · rw [List.mem_singleton.1 e]; unfold isDg
        have : (UInt8.ofNat (48 + m % 10)).toNat = 48 + m % 10 := by simp; omega
        rw [this]; omega
theorem valD_dgL (m : Nat) : valD (dgL m) = m := by
  induction m using Nat.strongRecOn with
  | _ m ih =>
    by_cases h : m = 0
    · subst h; rw [dgL_zero]; rfl
    · rw [dgL_pos m h, valD_snoc, ih (m / 10) (by omega)]
      have : (UInt8.ofNat (48 + m % 10)).toNat = 48 + m % 10 := by simp; omega
      rw [this]; omega
theorem dgL_head (m : Nat) : ∀ b, (dgL m).head? = some b → b.toNat ≠ 48 := by
  induction m using Nat.strongRecOn with
  | _ m ih =>
    by_cases h : m = 0
    · subst h; rw [dgL_zero]; simp
    · rw [dgL_pos m h]
      intro b hb
      by_cases h1 : m / 10 = 0
      · rw [h1, dgL_zero, List.nil_append] at hb
        rw [← (Option.some.inj hb : UInt8.ofNat (48 + m % 10) = b)]
        have : (UInt8.ofNat (48 + m % 10)).toNat = 48 + m % 10 := by simp; omega
        rw [this]; omega
      · have hne : dgL (m / 10) ≠ [] := by
          rw [dgL_pos _ h1]; simp
        have hih := ih (m / 10) (by omega) b
        cases hc : dgL (m / 10) with
        | nil => exact absurd hc hne
        | cons c t =>
          rw [hc] at hb hih
          exact hih hb
theorem decN_data (v : Nat) : (decN v).data.toList = if v = 0 then [48] else dgL v := by
  by_cases h : v = 0
  · subst h; rfl
  · rw [if_neg h]; exact decT_pos v h
theorem decN_dg (v : Nat) : ∀ b ∈ (decN v).data.toList, isDg b := by
  rw [decN_data]
  split
  · intro b hb; simp at hb; rw [hb]; exact ⟨by decide, by decide⟩
  · exact dgL_dg v
theorem valD_decN (v : Nat) : valD (decN v).data.toList = v := by
  rw [decN_data]
  split
  · rename_i h; rw [h]; rfl
  · exact valD_dgL v
theorem size_data (s : ByteArray) : s.data.toList.length = s.size := by simp
theorem decN_pos (v : Nat) : 1 ≤ (decN v).size := by
  rw [← size_data, decN_data]
  split
  · simp
  · rename_i h; rw [dgL_pos v h]; simp
theorem decN_lead (v : Nat) : ¬ (bt (decN v) 0 = 48 ∧ 1 < (decN v).size) := by
  intro ⟨h1, h2⟩
  have hp := decN_pos v
  have hb := bt_list (decN v) 0 (by omega)
  rw [← size_data] at h2
  rw [decN_data] at h2
  by_cases h : v = 0
  · rw [if_pos h] at h2; simp at h2
  · have hd := decN_data v
    rw [if_neg h] at hd
    have hh := dgL_head v
    rw [← hd] at hh
    refine hh ((decN v).data.toList[0]'(by rw [size_data]; omega)) (by rw [List.head?_eq_getElem?, List.getElem?_eq_getElem]) ?_
    have h3 : (((decN v).data.toList[0]'(by rw [size_data]; omega)).toNat : Int) = 48 := by rw [← h1]; exact hb.symm
    omega
theorem decN_size (v d : Nat) (hd : 1 ≤ d) : (decN v).size ≤ d ↔ v < 10 ^ d := by
  constructor
  · intro h
    have h1 := valD_lt _ (decN_dg v)
    rw [valD_decN, size_data] at h1
    exact Nat.lt_of_lt_of_le h1 (Nat.pow_le_pow_right (by omega) h)
  · intro h
    rw [← size_data, decN_data]
    split
    · simpa using hd
    · exact dgL_len d v h
/-- Figures that fit. -/
def fitsT (v : Nat) : ByteArray × Bool := if (decN v).size ≤ 800 then (decN v, true) else (⟨#[]⟩, false)
theorem figOk_decN (v : Nat) : figOk (decN v) = decide ((decN v).size ≤ 800) := by
  have h1 := decN_pos v
  have h2 := (digB_list (decN v)).2 (decN_dg v)
  have h3 := decN_lead v
  unfold figOk
  rw [h2]
  by_cases h : (decN v).size ≤ 800
  · rw [decide_eq_true (show 1 ≤ (decN v).size ∧ (decN v).size ≤ 800 from ⟨h1, h⟩), decide_eq_true h]
    by_cases h4 : bt (decN v) 0 = 48
    · have : ¬ 1 < (decN v).size := fun h5 => h3 ⟨h4, h5⟩
      simp [this]
    · simp [h4]
  · rw [decide_eq_false (show ¬ (1 ≤ (decN v).size ∧ (decN v).size ≤ 800) from fun hh => h hh.2), decide_eq_false h]; rfl
theorem figOk_parts (s : ByteArray) (h : figOk s = true) : 1 ≤ s.size ∧ s.size ≤ 800 ∧ (∀ b ∈ s.data.toList, isDg b) ∧ ¬ (bt s 0 = 48 ∧ 1 < s.size) := by
  unfold figOk at h
  simp at h
  obtain ⟨⟨h1, h2⟩, h3⟩ := h
  refine ⟨h1.1, h1.2, (digB_list s).1 h2, ?_⟩
  intro ⟨h4, h5⟩
  rcases h3 with h | h
  · exact h h4
  · omega
theorem figOk_dec (s : ByteArray) (h : figOk s = true) : decN (valD s.data.toList) = s := by
  obtain ⟨h1, h2, h3, h4⟩ := figOk_parts s h
  exact decN_of s h3 h1 h4
/-- The value of figures as bytes, the highest first. -/
def vM : List Int → Int
  | [] => 0
  | c :: T => (c - 48) * 10 ^ T.length + vM T
def dgI (T : List Int) : Prop := ∀ c ∈ T, 48 ≤ c ∧ c ≤ 57
theorem valD_foldl (l : List UInt8) : ∀ n : Nat, List.foldl (fun n (b : UInt8) => 10 * n + (b.toNat - 48)) n l = n * 10 ^ l.length + valD l := by
  induction l with
  | nil => intro n; simp [valD]
  | cons b l ih =>
    intro n
    unfold valD
    rw [List.foldl_cons, List.foldl_cons, ih, ih, List.length_cons, Nat.pow_succ, Nat.mul_zero, Nat.zero_add]
    rw [Nat.add_mul, Nat.mul_comm 10 n, Nat.mul_assoc n 10, Nat.mul_comm 10 (10 ^ l.length)]
    omega
theorem valD_cons (b : UInt8) (l : List UInt8) : valD (b :: l) = (b.toNat - 48) * 10 ^ l.length + valD l := by
  have := valD_foldl l (10 * 0 + (b.toNat - 48))
  unfold valD
  rw [List.foldl_cons, this, Nat.mul_zero, Nat.zero_add]; rfl
theorem byteOf_toNat (c : Int) (h : 0 ≤ c ∧ c < 256) : ((byteOf c).toNat : Int) = c := by
  unfold byteOf
  have : (UInt8.ofNat c.toNat).toNat = c.toNat := by simp; omega
  rw [this]; omega
theorem vM_valD (T : List Int) (h : dgI T) : ((valD (T.map byteOf) : Nat) : Int) = vM T := by
  induction T with
  | nil => rfl
  | cons c T ih =>
    have hc := h c (by simp)
    have hb := byteOf_toNat c (by omega)
    have := ih (fun d hd => h d (by simp [hd]))
    rw [List.map_cons, valD_cons, List.length_map]
    unfold vM
    rw [← this, Int.natCast_add, Int.natCast_mul, Int.natCast_pow]
    rw [show (((byteOf c).toNat - 48 : Nat) : Int) = c - 48 by omega]
    rfl
theorem map_dg (T : List Int) (h : dgI T) : ∀ b ∈ T.map byteOf, isDg b := by
  intro b hb
  obtain ⟨c, hc, rfl⟩ := List.mem_map.1 hb
  have h1 := h c hc
  have h2 := byteOf_toNat c (by omega)
  unfold isDg; omega
/-- A text of figures, the highest first, without a nought ahead. -/
theorem text_decN (T : List Int) (h : dgI T) (h1 : 1 ≤ T.length) (h2 : ∀ c, T.head? = some c → 1 < T.length → c ≠ 48) : strOfNums T = decN (vM T).toNat := by
  have hd := str_data T
  have hsz : (strOfNums T).size = T.length := str_size T
  have hdg := map_dg T h
  rw [← hd] at hdg
  have := decN_of (strOfNums T) hdg (by omega) (by
    intro ⟨h3, h4⟩
    cases T with
    | nil => simp at h1
    | cons c T =>
      have h5 := bt_list (strOfNums (c :: T)) 0 (by omega)
      have h6 : (strOfNums (c :: T)).data.toList[0]'(by rw [size_data]; omega) = byteOf c := by simp only [hd]; rfl
      rw [h6, byteOf_toNat c (by have := h c (by simp); omega)] at h5
      have h7 : bt (strOfNums (c :: T)) ((0 : Nat) : Int) = 48 := h3
      rw [h7] at h5
      exact h2 c rfl (by omega) h5.symm)
  rw [← this, hd, ← vM_valD T h, Int.toNat_natCast]
/-- A text of figures from a place on, noughts ahead of it: the number's figures. -/
theorem spec_trim_l0 (s : ByteArray) (hs : s.size ≤ 100000) (hd : ∀ b ∈ s.data.toList, isDg b) : ∀ (d i : Nat), s.size - i = d → i + 1 ≤ s.size → valD (s.data.toList.drop i) = valD s.data.toList →
    Ev (fun k => spec_l06Trim.l0 k s (i : Int)) (decN (valD s.data.toList)) := by
  have hl : ∀ (k i : Nat), spec_l06Trim.l0 (k + 1) s (i : Int) = if (wrap64 ((i : Int) + 1)) < (s.size : Int) then (if 0 ≤ (i : Int) then (if (i : Int) < (s.size : Int) then (if (bt s i) = 48 then (spec_l06Trim.l0 k s (wrap64 ((i : Int) + 1))) else (if (s.size : Int) = 0 then (some (⟨#[48]⟩ : ByteArray)) else (if (i : Int) ≤ (s.size : Int) then (some (s.extract (i : Int).toNat s.size)) else (none)))) else (none)) else (none)) else (if (s.size : Int) = 0 then (some (⟨#[48]⟩ : ByteArray)) else (if 0 ≤ (i : Int) then (if (i : Int) ≤ (s.size : Int) then (some (s.extract (i : Int).toNat s.size)) else (none)) else (none))) := fun _ _ => rfl
  have hend : ∀ i : Nat, i + 1 ≤ s.size → valD (s.data.toList.drop i) = valD s.data.toList → (i + 1 < s.size → bt s i ≠ 48) → s.extract i s.size = decN (valD s.data.toList) := by
    intro i hi hv hb
    have hdat : (s.extract i s.size).data.toList = s.data.toList.drop i := by
      simp
      exact List.take_of_length_le (by rw [List.length_drop, size_data]; omega)
    have hsz : (s.extract i s.size).size = s.size - i := by simp
    rw [← hv, ← hdat]
    refine (decN_of (s.extract i s.size) ?_ (by omega) ?_).symm
    · rw [hdat]; intro b hb2; exact hd b (List.mem_of_mem_drop hb2)
    · intro ⟨h1, h2⟩
      have h3 := bt_list (s.extract i s.size) 0 (by omega)
      have h4 := bt_list s i (by omega)
      have h5 : (s.extract i s.size).data.toList[0]'(by rw [size_data]; omega) = s.data.toList[i]'(by rw [size_data]; omega) := by
        simp only [hdat]
        rw [List.getElem_drop]; rfl
      rw [h5, ← h4] at h3
      have h6 : bt (s.extract i s.size) ((0 : Nat) : Int) = 48 := h1
      rw [h6] at h3
      exact hb (by omega) h3.symm
  intro d
  induction d with
  | zero => intro i hd2 hi; omega
  | succ d ih =>
    intro i hd2 hi hv
    by_cases h1 : i + 1 < s.size
    · by_cases hb : bt s i = 48
      · have hdr := List.drop_eq_getElem_cons (l := s.data.toList) (i := i) (by rw [size_data]; omega)
        have hbi := bt_list s i (by omega)
        have hv2 : valD (s.data.toList.drop (i + 1)) = valD s.data.toList := by
          rw [← hv, hdr, valD_cons]
          have : (s.data.toList[i]'(by rw [size_data]; omega)).toNat = 48 := by omega
          rw [this]; simp
        exact Ev.step (fun k => by rw [hl, w64s (by omega), if_pos (by omega), if_pos (by omega), if_pos (by omega), if_pos hb]) (ih (i + 1) (by omega) (by omega) hv2)
      · rw [← hend i hi hv (fun _ => hb)]
        exact Ev.step (f := fun _ => some (s.extract i s.size)) (fun k => by rw [hl, w64s (by omega), if_pos (by omega), if_pos (by omega), if_pos (by omega), if_neg hb, if_neg (by omega), if_pos (by omega), Int.toNat_natCast]) (Ev.now _)
    · rw [← hend i hi hv (fun h => absurd h h1)]
      exact Ev.step (f := fun _ => some (s.extract i s.size)) (fun k => by rw [hl, w64s (by omega), if_neg (by omega), if_neg (by omega), if_pos (by omega), if_pos (by omega), Int.toNat_natCast]) (Ev.now _)
theorem spec_trim (s : ByteArray) (hs : s.size ≤ 100000) (hd : ∀ b ∈ s.data.toList, isDg b) : Ev (fun k => spec_l06Trim.f k s) (decN (valD s.data.toList)) := by
  unfold spec_l06Trim.f
  by_cases h0 : s.size = 0
  · have hnil : s.data.toList = [] := List.eq_nil_of_length_eq_zero (by rw [size_data]; exact h0)
    rw [hnil]
    exact Ev.step (f := fun _ => some (⟨#[48]⟩ : ByteArray)) (fun k => by simp only [spec_l06Trim.l0]; rw [w64 (by omega) (by omega), if_neg (by omega), if_pos (by omega)]) (Ev.now _)
  · exact spec_trim_l0 s hs hd s.size 0 (by omega) (by omega) (by simp)
def E9 : Int := 1000000000
theorem e9 (i : Nat) : E9 ^ i = 10 ^ (9 * i) := by
  have : E9 = 10 ^ 9 := rfl
  rw [this, ← Int.pow_mul]
theorem p10_pos (i : Nat) : (0 : Int) < 10 ^ i := Int.pow_pos (by omega)
/-- One limb's nine figures. -/
theorem spec_text_l1 (L : List Int) (hL : L.length ≤ 10000) (i : Nat) (hi : i < L.length) (r : ByteArray) : ∀ (d k : Nat) (x : Int) (T : List Int), 9 - k = d → k ≤ 9 → T.length = 9 * i + k → dgI T → 0 ≤ x → x < 10 ^ (9 - k) →
    (∀ T' : List Int, T'.length = 9 * (i + 1) → dgI T' → vM T' = vM T + 10 ^ (9 * i + k) * x → Ev (fun n => spec_l06Text.l0 n L (List.replicate (9 * L.length - 9 * (i + 1)) 0 ++ T') ((i + 1 : Nat) : Int)) r) →
    Ev (fun n => spec_l06Text.l1 n L (List.replicate (9 * L.length - (9 * i + k)) 0 ++ T) (i : Int) x (k : Int)) r := by
  intro d
  induction d with
  | zero =>
    intro k x T hd hk hT hT2 hx0 hx1 hc
    obtain rfl : k = 9 := by omega
    have hx : x = 0 := by
      have : (10 : Int) ^ (9 - 9) = 1 := rfl
      omega
    subst hx
    refine Ev.step (fun n => ?_) (hc T (by omega) hT2 (by omega))
    simp only [spec_l06Text.l1]
    rw [if_neg (by omega), w64s (by omega), show 9 * i + 9 = 9 * (i + 1) by omega]
  | succ d ih =>
    intro k x T hd hk hT hT2 hx0 hx1 hc
    have hpw : (10 : Int) ^ (9 - k) = 10 * 10 ^ (9 - (k + 1)) := by
      rw [show 9 - k = (9 - (k + 1)) + 1 by omega, Int.pow_succ, Int.mul_comm]
    have hx9 : x < 1000000000 := by
      have h1 : (10 : Int) ^ (9 - k) ≤ 10 ^ 9 := by
        rw [show (10 : Int) ^ (9 - k) = ((10 ^ (9 - k) : Nat) : Int) by rw [Int.natCast_pow]; rfl]
        have := Nat.pow_le_pow_right (n := 10) (by omega) (show 9 - k ≤ 9 by omega)
        have h2 : (10 : Int) ^ 9 = 1000000000 := rfl
        omega
      have h2 : (10 : Int) ^ 9 = 1000000000 := rfl
      omega
    have h' := ih (k + 1) (x / 10) ((48 + x % 10) :: T) (by omega) (by omega) (by simp; omega) (by
      intro c hcm
      rcases List.mem_cons.1 hcm with e | e
      · omega
      · exact hT2 c e) (by omega) (by
      rw [hpw] at hx1
      generalize (10 : Int) ^ (9 - (k + 1)) = q at *
      omega) (by
      intro T' h1 h2 h3
      refine hc T' h1 h2 ?_
      rw [h3]
      simp only [vM]
      rw [hT, show 9 * i + (k + 1) = (9 * i + k) + 1 by omega, Int.pow_succ]
      generalize (10 : Int) ^ (9 * i + k) = q
      have : x = 10 * (x / 10) + x % 10 := by omega
      generalize x / 10 = u at *
      generalize x % 10 = v at *
      subst this
      grind)
    refine Ev.step (fun n => ?_) h'
    have e1 : wrap64 (wrap64 (wrap64 (9 * wrap64 ((L.length : Int) - (i : Int))) - 1) - (k : Int)) = ((9 * L.length - (9 * i + (k + 1)) : Nat) : Int) := by
      rw [w64 (x := (L.length : Int) - (i : Int)) (by omega) (by omega), w64 (x := 9 * ((L.length : Int) - (i : Int))) (by omega) (by omega), w64 (x := 9 * ((L.length : Int) - (i : Int)) - 1) (by omega) (by omega), w64 (by omega) (by omega)]
      omega
    simp only [spec_l06Text.l1]
    rw [if_pos (by omega), e1, if_pos (by omega), if_pos (by simp; omega), tmodN hx0, tdivN hx0, w64 (x := x / 10) (by omega) (by omega), w64 (x := 48 + x % 10) (by omega) (by omega), show (48 + x % 10) % 256 = 48 + x % 10 by omega, w64s (by omega), Int.toNat_natCast,
      show 9 * L.length - (9 * i + k) = (9 * L.length - (9 * i + (k + 1))) + 1 by omega, set_last]
theorem spec_text_l0 (L : List Int) (hL : L.length ≤ 10000) (h9 : ∀ x ∈ L, 0 ≤ x ∧ x < E9) : ∀ (d i : Nat) (T : List Int), L.length - i = d → i ≤ L.length → T.length = 9 * i → dgI T → vM T = valI E9 (L.take i) →
    Ev (fun n => spec_l06Text.l0 n L (List.replicate (9 * L.length - 9 * i) 0 ++ T) (i : Int)) (decN (valI E9 L).toNat) := by
  intro d
  induction d with
  | zero =>
    intro i T hd hi hT hT2 hv
    obtain rfl : i = L.length := by omega
    rw [List.take_of_length_le (by omega)] at hv
    have hz : 9 * L.length - 9 * L.length = 0 := by omega
    have hdg := map_dg T hT2
    rw [← str_data T] at hdg
    have htr := spec_trim (strOfNums T) (by rw [str_size]; omega) hdg
    have hvd := vM_valD T hT2
    rw [str_data, show valD (T.map byteOf) = (valI E9 L).toNat by omega] at htr
    refine Ev.step (fun n => ?_) (Ev.bind htr (Ev.now _))
    simp only [spec_l06Text.l0]
    rw [if_neg (by omega), hz, List.replicate_zero, List.nil_append]
  | succ d ih =>
    intro i T hd hi hT hT2 hv
    have hx := h9 _ (getD_mem L i (by omega))
    have h10 : (10 : Int) ^ (9 - 0) = E9 := rfl
    have h1 := spec_text_l1 L hL i (by omega) (decN (valI E9 L).toNat) 9 0 (L.getD i 0) T rfl (by omega) (by omega) hT2 hx.1 (by rw [h10]; exact hx.2) (by
      intro T' h2 h3 h4
      refine ih (i + 1) T' (by omega) (by omega) h2 h3 ?_
      rw [h4, hv, valI_take_succ E9 L i (by omega), e9]
      rfl)
    refine Ev.step (fun n => ?_) h1
    simp only [spec_l06Text.l0]
    rw [if_pos (by omega), if_pos (by omega), rd_nat]
    rfl
theorem spec_text (L : List Int) (hL : L.length ≤ 10000) (h9 : ∀ x ∈ L, 0 ≤ x ∧ x < E9) : Ev (fun n => spec_l06Text.f n L) (decN (valI E9 L).toNat) := by
  have h := spec_text_l0 L hL h9 L.length 0 [] (by omega) (by omega) rfl (by intro c hc; simp at hc) (by simp [vM, valI])
  unfold spec_l06Text.f
  rw [w64 (x := 9 * (L.length : Int)) (by omega) (by omega), show 9 * (L.length : Int) = ((9 * L.length : Nat) : Int) by omega, Int.toNat_natCast]
  simp only [if_pos (show (0 : Int) ≤ ((9 * L.length : Nat) : Int) by omega), if_pos (show 9 * L.length ≤ 281474976710656 by omega)]
  simpa using h
theorem spec_at (l : List Int) (i : Nat) : spec_l06At.f l (i : Int) = some (l.getD i 0) := by
  unfold spec_l06At.f
  by_cases h : i < l.length
  · rw [if_neg (by omega), if_pos (by omega), if_pos (by omega), rd_nat]
  · rw [if_pos (by omega), getD_out l i (by omega)]
theorem valI_take_succ' (B : Int) (l : List Int) (i : Nat) : valI B (l.take (i + 1)) = valI B (l.take i) + B ^ i * l.getD i 0 := by
  by_cases h : i < l.length
  · exact valI_take_succ B l i h
  · rw [getD_out l i (by omega), List.take_of_length_le (by omega), List.take_of_length_le (by omega)]
    simp
theorem getD_range (B : Int) (hB : 0 < B) (l : List Int) (h : ∀ x ∈ l, 0 ≤ x ∧ x < B) (i : Nat) : 0 ≤ l.getD i 0 ∧ l.getD i 0 < B := by
  by_cases hi : i < l.length
  · exact h _ (getD_mem l i hi)
  · rw [getD_out l i (by omega)]; omega
/-- A row of the product: one limb of A with all of C. -/
theorem spec_mul_l1 (A C : List Int) (hA : ∀ x ∈ A, 0 ≤ x ∧ x < E9) (hC : ∀ x ∈ C, 0 ≤ x ∧ x < E9) (hlA : A.length ≤ 3000) (hlC : C.length ≤ 3000) (i : Nat) (hi : i < A.length) (W : Int) :
    ∀ (d k : Nat) (out : List Int) (c : Int), C.length + 1 - k = d → k ≤ C.length + 1 → out.length = A.length + C.length + 1 → (∀ j, 0 ≤ out.getD j 0 ∧ out.getD j 0 < E9) → (0 ≤ c ∧ c < E9) → (k = C.length + 1 → c = 0) → (k ≤ C.length → out.getD (i + C.length) 0 = 0) → (∀ j, i + C.length < j → out.getD j 0 = 0) → valI E9 out + E9 ^ (i + k) * c = W + A.getD i 0 * E9 ^ i * valI E9 (C.take k) →
    ∃ out' : List Int, out'.length = A.length + C.length + 1 ∧ (∀ j, 0 ≤ out'.getD j 0 ∧ out'.getD j 0 < E9) ∧ (∀ j, i + 1 + C.length ≤ j → out'.getD j 0 = 0) ∧ valI E9 out' = W + A.getD i 0 * E9 ^ i * valI E9 C ∧ ∀ r, Ev (fun n => spec_l06Mul.l0 n A C out' ((i + 1 : Nat) : Int)) r → Ev (fun n => spec_l06Mul.l1 n A C out (i : Int) c (k : Int)) r := by
  have hE : E9 = 1000000000 := rfl
  have hl : ∀ (n : Nat) (out : List Int) (c : Int) (k : Nat), spec_l06Mul.l1 (n + 1) A C out (i : Int) c (k : Int) =
      (let body : Option (List Int) := if 0 ≤ (wrap64 ((i : Int) + k)) then (if (wrap64 ((i : Int) + k)) < (out.length : Int) then (if 0 ≤ (i : Int) then (if (i : Int) < (A.length : Int) then ((spec_l06At.f C k).bind fun t114 => (spec_l06Mul.l1 n A C (out.set ((wrap64 ((i : Int) + k)) : Int).toNat (Int.tmod (wrap64 ((wrap64 ((rd out (wrap64 ((i : Int) + k))) + c)) + (wrap64 ((rd A i) * t114)))) 1000000000)) i (wrap64 (Int.tdiv (wrap64 ((wrap64 ((rd out (wrap64 ((i : Int) + k))) + c)) + (wrap64 ((rd A i) * t114)))) 1000000000)) (wrap64 ((k : Int) + 1)))) else (none)) else (none)) else (none)) else (none)
       if (k : Int) < (C.length : Int) then body else (if c > 0 then body else (spec_l06Mul.l0 n A C out (wrap64 ((i : Int) + 1))))) := fun _ _ _ _ => rfl
  intro d
  have hstop : ∀ (k : Nat) (out : List Int), C.length ≤ k → k ≤ C.length + 1 → out.length = A.length + C.length + 1 → (∀ j, 0 ≤ out.getD j 0 ∧ out.getD j 0 < E9) → (k ≤ C.length → out.getD (i + C.length) 0 = 0) → (∀ j, i + C.length < j → out.getD j 0 = 0) → valI E9 out + E9 ^ (i + k) * 0 = W + A.getD i 0 * E9 ^ i * valI E9 (C.take k) →
      ∃ out' : List Int, out'.length = A.length + C.length + 1 ∧ (∀ j, 0 ≤ out'.getD j 0 ∧ out'.getD j 0 < E9) ∧ (∀ j, i + 1 + C.length ≤ j → out'.getD j 0 = 0) ∧ valI E9 out' = W + A.getD i 0 * E9 ^ i * valI E9 C ∧ ∀ r, Ev (fun n => spec_l06Mul.l0 n A C out' ((i + 1 : Nat) : Int)) r → Ev (fun n => spec_l06Mul.l1 n A C out (i : Int) 0 (k : Int)) r := by
    intro k out hk hk2 hol ho _ hz hv
    rw [List.take_of_length_le hk, Int.mul_zero, Int.add_zero] at hv
    refine ⟨out, hol, ho, (fun j hj => hz j (by omega)), hv, fun r hr => Ev.step (fun n => ?_) hr⟩
    rw [hl]
    simp only
    rw [if_neg (by omega), if_neg (by omega), w64s (by omega)]
  induction d with
  | zero =>
    intro k out c hd hk hol ho hc hc0 hz1 hz hv
    have hk' : k = C.length + 1 := by omega
    obtain rfl := hc0 hk'
    exact hstop k out (by omega) hk hol ho hz1 hz hv
  | succ d ih =>
    intro k out c hd hk hol ho hc hc0 hz1 hz hv
    by_cases hgo : k < C.length ∨ c > 0
    · have hkC : k ≤ C.length := by
        rcases Nat.lt_or_ge k (C.length + 1) with h | h
        · omega
        · exact absurd (hc0 (by omega)) (by omega)
      have ha := getD_range E9 (by decide) A hA i
      have hb := getD_range E9 (by decide) C hC k
      have hob := ho (i + k)
      have hvC := valI_take_succ' E9 C k
      have hm0 : 0 ≤ A.getD i 0 * C.getD k 0 := Int.mul_nonneg ha.1 hb.1
      have hm1 : A.getD i 0 * C.getD k 0 ≤ 999999999 * 999999999 := by
        have := Int.mul_le_mul (show A.getD i 0 ≤ 999999999 by omega) (show C.getD k 0 ≤ 999999999 by omega) hb.1 (by omega)
        exact this
      generalize hx : out.getD (i + k) 0 + c + A.getD i 0 * C.getD k 0 = x
      have hx0 : 0 ≤ x ∧ x < 1000000000 * 1000000000 := by omega
      have hset := valI_set E9 (x % 1000000000) out (i + k) (by omega)
      have hv' : valI E9 (out.set (i + k) (x % 1000000000)) + E9 ^ (i + (k + 1)) * (x / 1000000000) = W + A.getD i 0 * E9 ^ i * valI E9 (C.take (k + 1)) := by
        rw [hset, hvC, show i + (k + 1) = (i + k) + 1 by omega, Int.pow_succ]
        rw [Int.mul_add]
        have hpa : A.getD i 0 * E9 ^ i * (E9 ^ k * C.getD k 0) = E9 ^ (i + k) * (A.getD i 0 * C.getD k 0) := by
          rw [Int.pow_add]
          generalize E9 ^ i = p
          generalize E9 ^ k = q
          grind
        rw [hpa]
        have hxx : x = 1000000000 * (x / 1000000000) + x % 1000000000 := by omega
        rw [hE] at hv ⊢
        generalize (1000000000 : Int) ^ (i + k) = P at hv ⊢
        have q1 : P * x = P * out.getD (i + k) 0 + P * c + P * (A.getD i 0 * C.getD k 0) := by rw [← hx, Int.mul_add, Int.mul_add]
        have q2 : P * x = 1000000000 * (P * (x / 1000000000)) + P * (x % 1000000000) := by
          conv => lhs; rw [hxx]
          rw [Int.mul_add, Int.mul_left_comm]
        have q3 : P * 1000000000 * (x / 1000000000) = 1000000000 * (P * (x / 1000000000)) := by rw [Int.mul_assoc, Int.mul_left_comm]
        rw [q3, Int.mul_sub]
        omega
      have hset_get : ∀ j, (out.set (i + k) (x % 1000000000)).getD j 0 = if j = i + k then x % 1000000000 else out.getD j 0 := by
        intro j
        by_cases h : j = i + k
        · subst h; rw [if_pos rfl, getD_set_eq _ _ _ (by omega)]
        · rw [if_neg h, getD_set_ne _ _ _ _ (fun h2 => h h2.symm)]
      have h' := ih (k + 1) (out.set (i + k) (x % 1000000000)) (x / 1000000000) (by omega) (by omega) (by simp; omega) (by
        intro j
        rw [hset_get]
        split
        · omega
        · exact ho j) (by omega) (by
        intro hk1
        have hkc : k = C.length := by omega
        have h0 : C.getD k 0 = 0 := getD_out C k (by omega)
        have h1 : out.getD (i + k) 0 = 0 := by rw [hkc]; exact hz1 (by omega)
        rw [h0, h1, Int.mul_zero] at hx
        omega) (by
        intro hk1
        rw [hset_get, if_neg (by omega)]
        exact hz1 (by omega)) (by
        intro j hj
        rw [hset_get, if_neg (by omega)]
        exact hz j hj) hv'
      obtain ⟨out', p1, p2, p3, p4, p5⟩ := h'
      refine ⟨out', p1, p2, p3, p4, fun r hr => Ev.step (fun n => ?_) (p5 r hr)⟩
      rw [hl]
      simp only
      clear hv' hset hvC hv hstop ih hset_get p2 p3 p4 p5 hr ho hz
      have f1 : (0 : Int) ≤ ((i + k : Nat) : Int) := by omega
      have f2 : ((i + k : Nat) : Int) < (out.length : Int) := by omega
      have f3 : (0 : Int) ≤ (i : Int) := by omega
      have f4 : (i : Int) < (A.length : Int) := by omega
      have b1 : -9223372036854775808 ≤ out.getD (i + k) 0 + c ∧ out.getD (i + k) 0 + c < 9223372036854775808 := by omega
      have b2 : -9223372036854775808 ≤ A.getD i 0 * C.getD k 0 ∧ A.getD i 0 * C.getD k 0 < 9223372036854775808 := by omega
      have b3 : -9223372036854775808 ≤ x ∧ x < 9223372036854775808 := by omega
      have b4 : -9223372036854775808 ≤ x / 1000000000 ∧ x / 1000000000 < 9223372036854775808 := by omega
      have b5 : k < 9223372036854775807 := by omega
      have b6 : -9223372036854775808 ≤ (i : Int) + (k : Int) ∧ (i : Int) + (k : Int) < 9223372036854775808 := by omega
      have g1 : (k : Int) < (C.length : Int) ∨ (¬ (k : Int) < (C.length : Int) ∧ c > 0) := by omega
      have hw : wrap64 ((i : Int) + (k : Int)) = ((i + k : Nat) : Int) := w64 b6.1 b6.2
      have hbody : (if 0 ≤ (wrap64 ((i : Int) + k)) then (if (wrap64 ((i : Int) + k)) < (out.length : Int) then (if 0 ≤ (i : Int) then (if (i : Int) < (A.length : Int) then ((spec_l06At.f C k).bind fun t114 => (spec_l06Mul.l1 n A C (out.set ((wrap64 ((i : Int) + k)) : Int).toNat (Int.tmod (wrap64 ((wrap64 ((rd out (wrap64 ((i : Int) + k))) + c)) + (wrap64 ((rd A i) * t114)))) 1000000000)) i (wrap64 (Int.tdiv (wrap64 ((wrap64 ((rd out (wrap64 ((i : Int) + k))) + c)) + (wrap64 ((rd A i) * t114)))) 1000000000)) (wrap64 ((k : Int) + 1)))) else (none)) else (none)) else (none)) else (none)) = spec_l06Mul.l1 n A C (out.set (i + k) (x % 1000000000)) i (x / 1000000000) ((k + 1 : Nat) : Int) := by
        rw [hw, if_pos f1, if_pos f2, if_pos f3, if_pos f4, spec_at]
        simp only [Option.bind_some]
        rw [rd_nat, rd_nat, w64 b1.1 b1.2, w64 b2.1 b2.2, hx, w64 b3.1 b3.2, tmodN hx0.1, tdivN hx0.1, w64 b4.1 b4.2, w64s b5, Int.toNat_natCast]
      rw [hbody]
      rcases g1 with h3 | h3
      · rw [if_pos h3]
      · rw [if_neg h3.1, if_pos h3.2]
    · obtain rfl : c = 0 := by omega
      exact hstop k out (by omega) hk hol ho hz1 hz hv
theorem spec_mul_l0 (A C : List Int) (hA : ∀ x ∈ A, 0 ≤ x ∧ x < E9) (hC : ∀ x ∈ C, 0 ≤ x ∧ x < E9) (hlA : A.length ≤ 3000) (hlC : C.length ≤ 3000) :
    ∀ (d i : Nat) (out : List Int), A.length - i = d → i ≤ A.length → out.length = A.length + C.length + 1 → (∀ j, 0 ≤ out.getD j 0 ∧ out.getD j 0 < E9) → (∀ j, i + C.length ≤ j → out.getD j 0 = 0) → valI E9 out = valI E9 (A.take i) * valI E9 C →
    ∃ L : List Int, Ev (fun n => spec_l06Mul.l0 n A C out (i : Int)) L ∧ L.length = A.length + C.length + 1 ∧ (∀ j, 0 ≤ L.getD j 0 ∧ L.getD j 0 < E9) ∧ valI E9 L = valI E9 A * valI E9 C := by
  intro d
  induction d with
  | zero =>
    intro i out hd hi hol ho hz hv
    obtain rfl : i = A.length := by omega
    rw [List.take_of_length_le (by omega)] at hv
    exact ⟨out, Ev.step (f := fun _ => some out) (fun n => by simp only [spec_l06Mul.l0]; rw [if_neg (by omega)]) (Ev.now _), hol, ho, hv⟩
  | succ d ih =>
    intro i out hd hi hol ho hz hv
    have hvA := valI_take_succ' E9 A i
    have h9 : (0 : Int) < E9 := by decide
    obtain ⟨out', p1, p2, p3, p4, p5⟩ := spec_mul_l1 A C hA hC hlA hlC i (by omega) (valI E9 (A.take i) * valI E9 C) (C.length + 1) 0 out 0 (by omega) (by omega) hol ho (by omega) (by omega) (fun _ => hz _ (by omega)) (fun j hj => hz j (by omega)) (by rw [hv]; simp [valI])
    obtain ⟨L, h1, h2⟩ := ih (i + 1) out' (by omega) (by omega) p1 p2 (fun j hj => p3 j (by omega)) (by
      rw [p4, hvA, Int.add_mul]
      rw [Int.mul_comm (E9 ^ i)])
    refine ⟨L, ?_, h2⟩
    refine Ev.step (fun n => ?_) (p5 L h1)
    simp only [spec_l06Mul.l0]
    rw [if_pos (by omega)]
    rfl
theorem getD_all (B : Int) (L : List Int) (h : ∀ j, 0 ≤ L.getD j 0 ∧ L.getD j 0 < B) : ∀ x ∈ L, 0 ≤ x ∧ x < B := by
  intro x hx
  obtain ⟨j, hj, rfl⟩ := List.getElem_of_mem hx
  have := h j
  rw [List.getD_eq_getElem?_getD, List.getElem?_eq_getElem hj] at this
  exact this
theorem spec_mul (A C : List Int) (hA : ∀ x ∈ A, 0 ≤ x ∧ x < E9) (hC : ∀ x ∈ C, 0 ≤ x ∧ x < E9) (hlA : A.length ≤ 3000) (hlC : C.length ≤ 3000) :
    ∃ L : List Int, Ev (fun n => spec_l06Mul.f n A C) L ∧ L.length = A.length + C.length + 1 ∧ (∀ x ∈ L, 0 ≤ x ∧ x < E9) ∧ valI E9 L = valI E9 A * valI E9 C := by
  have h9 : (0 : Int) < E9 := by decide
  obtain ⟨L, h1, h2, h3, h4⟩ := spec_mul_l0 A C hA hC hlA hlC A.length 0 (List.replicate (A.length + C.length + 1) 0) (by omega) (by omega) (by simp) (fun j => by rw [getD_zeros]; omega) (fun j _ => getD_zeros _ _) (by rw [valI_zeros]; simp [valI])
  refine ⟨L, ?_, h2, getD_all E9 L h3, h4⟩
  unfold spec_l06Mul.f
  rw [w64 (x := (A.length : Int) + (C.length : Int)) (by omega) (by omega), w64 (x := (A.length : Int) + (C.length : Int) + 1) (by omega) (by omega), show (A.length : Int) + (C.length : Int) + 1 = ((A.length + C.length + 1 : Nat) : Int) by omega, Int.toNat_natCast]
  simp only [if_pos (show (0 : Int) ≤ ((A.length + C.length + 1 : Nat) : Int) by omega), if_pos (show A.length + C.length + 1 ≤ 35184372088832 by omega)]
  exact h1
theorem spec_in (a b c : Int) : spec_l01In.f a b c = some (decide (b ≤ a ∧ a ≤ c)) := by
  unfold spec_l01In.f
  by_cases h : a ≥ b
  · rw [if_pos h]; simp; omega
  · rw [if_neg h]; simp; omega
/-- Noughts ahead taken off: the same number. -/
theorem spec_short_l0 (L : List Int) (hl : L.length ≤ 100000) (h9 : ∀ x ∈ L, 0 ≤ x ∧ x < E9) : ∀ n : Nat, n ≤ L.length → valI E9 (L.take n) = valI E9 L →
    ∃ L' : List Int, Ev (fun k => spec_l06Short.l0 k L (n : Int)) L' ∧ L'.length ≤ L.length ∧ (∀ x ∈ L', 0 ≤ x ∧ x < E9) ∧ valI E9 L' = valI E9 L := by
  have hr : ∀ (k n : Nat), spec_l06Short.l0 (k + 1) L (n : Int) = if (n : Int) > 1 then (if 0 ≤ (wrap64 ((n : Int) - 1)) then (if (wrap64 ((n : Int) - 1)) < (L.length : Int) then (if (rd L (wrap64 ((n : Int) - 1))) = 0 then (spec_l06Short.l0 k L (wrap64 ((n : Int) - 1))) else (if 0 ≤ (n : Int) then (if (n : Int) ≤ (L.length : Int) then (some (L.take (n : Int).toNat)) else (none)) else (none))) else (none)) else (none)) else (if 0 ≤ (n : Int) then (if (n : Int) ≤ (L.length : Int) then (some (L.take (n : Int).toNat)) else (none)) else (none)) := fun _ _ => rfl
  intro n
  induction n with
  | zero =>
    intro hn hv
    refine ⟨L.take 0, ?_, by simp, by simp, hv⟩
    exact Ev.step (f := fun _ => some (L.take 0)) (fun k => by rw [hr, if_neg (by omega), if_pos (by omega), if_pos (by omega)]; rfl) (Ev.now _)
  | succ n ih =>
    intro hn hv
    have hend : (L.take (n + 1)).length ≤ L.length ∧ (∀ x ∈ L.take (n + 1), 0 ≤ x ∧ x < E9) ∧ valI E9 (L.take (n + 1)) = valI E9 L :=
      ⟨by rw [List.length_take]; omega, fun x hx => h9 x (List.mem_of_mem_take hx), hv⟩
    have f1 : (0 : Int) ≤ ((n + 1 : Nat) : Int) := by omega
    have f2 : ((n + 1 : Nat) : Int) ≤ (L.length : Int) := by omega
    by_cases h1 : 1 < n + 1
    · have e : wrap64 (((n + 1 : Nat) : Int) - 1) = (n : Int) := by rw [w64 (by omega) (by omega)]; omega
      have f3 : ((n + 1 : Nat) : Int) > 1 := by omega
      have f4 : (0 : Int) ≤ (n : Int) := by omega
      have f5 : (n : Int) < (L.length : Int) := by omega
      by_cases h0 : L.getD n 0 = 0
      · have hv2 : valI E9 (L.take n) = valI E9 L := by
          rw [← hv, valI_take_succ E9 L n (by omega), h0, Int.mul_zero, Int.add_zero]
        obtain ⟨L', h2, h3⟩ := ih (by omega) hv2
        exact ⟨L', Ev.step (fun k => by rw [hr, if_pos f3, e, if_pos f4, if_pos f5, rd_nat, if_pos h0]) h2, h3⟩
      · exact ⟨_, Ev.step (f := fun _ => some (L.take (n + 1))) (fun k => by rw [hr, if_pos f3, e, if_pos f4, if_pos f5, rd_nat, if_neg h0, if_pos f1, if_pos f2]; rfl) (Ev.now _), hend⟩
    · exact ⟨_, Ev.step (f := fun _ => some (L.take (n + 1))) (fun k => by rw [hr, if_neg (by omega), if_pos f1, if_pos f2]; rfl) (Ev.now _), hend⟩
theorem spec_short (L : List Int) (hl : L.length ≤ 100000) (h9 : ∀ x ∈ L, 0 ≤ x ∧ x < E9) :
    ∃ L' : List Int, Ev (fun k => spec_l06Short.f k L) L' ∧ L'.length ≤ L.length ∧ (∀ x ∈ L', 0 ≤ x ∧ x < E9) ∧ valI E9 L' = valI E9 L :=
  spec_short_l0 L hl h9 L.length (Nat.le_refl _) (by rw [List.take_of_length_le (Nat.le_refl _)])
theorem spec_mulShort (A C : List Int) (hA : ∀ x ∈ A, 0 ≤ x ∧ x < E9) (hC : ∀ x ∈ C, 0 ≤ x ∧ x < E9) (hlA : A.length ≤ 3000) (hlC : C.length ≤ 3000) :
    ∃ L L' : List Int, Ev (fun n => spec_l06Mul.f n A C) L ∧ Ev (fun k => spec_l06Short.f k L) L' ∧ L'.length ≤ A.length + C.length + 1 ∧ (∀ x ∈ L', 0 ≤ x ∧ x < E9) ∧ valI E9 L' = valI E9 A * valI E9 C := by
  obtain ⟨L, h1, h2, h3, h4⟩ := spec_mul A C hA hC hlA hlC
  obtain ⟨L', g1, g2, g3, g4⟩ := spec_short L (by omega) h3
  exact ⟨L, L', h1, g1, by omega, g3, by rw [g4, h4]⟩
theorem power_odd (k e : Nat) (A C : List Int) (h : e % 2 = 1) (h2 : e < 9223372036854775808) : spec_l06Power.l0 (k + 1) (e : Int) A C = (spec_l06Mul.f k A C).bind fun t132 => ((spec_l06Short.f k t132).bind fun t135 => ((spec_l06Mul.f k C C).bind fun t138 => ((spec_l06Short.f k t138).bind fun t141 => (spec_l06Power.l0 k ((e / 2 : Nat) : Int) t135 t141)))) := by
  simp only [spec_l06Power.l0]
  rw [if_pos (by omega), tmodN (by omega), if_pos (by omega), tdivN (by omega), w64 (by omega) (by omega)]
  rfl
theorem power_even (k e : Nat) (A C : List Int) (h : ¬ e % 2 = 1) (h0 : e ≠ 0) (h2 : e < 9223372036854775808) : spec_l06Power.l0 (k + 1) (e : Int) A C = (spec_l06Mul.f k C C).bind fun t144 => ((spec_l06Short.f k t144).bind fun t147 => (spec_l06Power.l0 k ((e / 2 : Nat) : Int) A t147)) := by
  simp only [spec_l06Power.l0]
  rw [if_pos (by omega), tmodN (by omega), if_neg (by omega), tdivN (by omega), w64 (by omega) (by omega)]
  rfl
theorem power_end (k : Nat) (A C : List Int) : spec_l06Power.l0 (k + 1) ((0 : Nat) : Int) A C = some A := by
  simp only [spec_l06Power.l0]
  rw [if_neg (by omega)]
theorem sq_pow (v : Int) (q : Nat) : (v * v) ^ q = v ^ (2 * q) := by
  have h2 : v ^ 2 = v * v := by simp [Int.pow_succ]
  rw [Int.pow_mul, h2]
theorem power_room (m d : Nat) (hm : (m + 1) * 2 ^ (d + 1) ≤ 4096) : (2 * m + 1 + 1) * 2 ^ d ≤ 4096 ∧ 2 * m + 2 ≤ 4096 ∧ 2 ^ d ≤ 4096 := by
  have hm1 : (m + 1) * 2 ^ (d + 1) = (2 * m + 1 + 1) * 2 ^ d := by rw [Nat.pow_succ, show 2 * m + 1 + 1 = (m + 1) * 2 by omega, Nat.mul_assoc, Nat.mul_comm 2]
  rw [hm1] at hm
  have hp : 1 ≤ 2 ^ d := Nat.one_le_two_pow
  have h1 := Nat.mul_le_mul_left (2 * m + 1 + 1) hp
  have h2 := Nat.mul_le_mul_right (2 ^ d) (show 1 ≤ 2 * m + 1 + 1 by omega)
  rw [Nat.mul_one] at h1
  rw [Nat.one_mul] at h2
  exact ⟨hm, Nat.le_trans h1 hm, Nat.le_trans h2 hm⟩
theorem half_lt (e d : Nat) (h : e < 2 ^ (d + 1)) : e / 2 < 2 ^ d := by
  rw [Nat.pow_succ] at h
  omega
theorem spec_power_l0 : ∀ (d e m : Nat) (A C : List Int), e < 2 ^ d → (m + 1) * 2 ^ d ≤ 4096 → A.length ≤ m → C.length ≤ m → m ≤ 4096 → e ≤ 4096 → (∀ x ∈ A, 0 ≤ x ∧ x < E9) → (∀ x ∈ C, 0 ≤ x ∧ x < E9) →
    ∃ L : List Int, Ev (fun k => spec_l06Power.l0 k (e : Int) A C) L ∧ L.length ≤ 4096 ∧ (∀ x ∈ L, 0 ≤ x ∧ x < E9) ∧ valI E9 L = valI E9 A * valI E9 C ^ e := by
  intro d
  induction d with
  | zero =>
    intro e m A C he _ hlA hlC hm4 _ hA hC
    obtain rfl : e = 0 := by rw [Nat.pow_zero] at he; omega
    exact ⟨A, Ev.step (f := fun _ => some A) (fun k => power_end k A C) (Ev.now _), Nat.le_trans hlA hm4, hA, by rw [Int.pow_zero, Int.mul_one]⟩
  | succ d ih =>
    intro e m A C he hm hlA hlC hm4 he4 hA hC
    by_cases h0 : e = 0
    · subst h0
      exact ⟨A, Ev.step (f := fun _ => some A) (fun k => power_end k A C) (Ev.now _), Nat.le_trans hlA hm4, hA, by rw [Int.pow_zero, Int.mul_one]⟩
    · obtain ⟨r1, r2, _⟩ := power_room m d hm
      have he2 := half_lt e d he
      clear he hm
      have e64 : e < 9223372036854775808 := by omega
      have l1 : A.length ≤ 3000 := by omega
      have l2 : C.length ≤ 3000 := by omega
      obtain ⟨S, S', s1, s2, s3, s4, s5⟩ := spec_mulShort C C hC hC l2 l2
      have ls : S'.length ≤ 2 * m + 1 := by omega
      have l5 : 2 * m + 1 ≤ 4096 := by omega
      have l6 : e / 2 ≤ 4096 := by omega
      by_cases h1 : e % 2 = 1
      · obtain ⟨T, T', t1, t2, t3, t4, t5⟩ := spec_mulShort A C hA hC l1 l2
        obtain ⟨L, g1, g2, g3, g4⟩ := ih (e / 2) (2 * m + 1) T' S' he2 r1 (by omega) ls l5 l6 t4 s4
        refine ⟨L, Ev.step (fun k => power_odd k e A C h1 e64) (Ev.bind t1 (Ev.bind t2 (Ev.bind s1 (Ev.bind s2 g1)))), g2, g3, ?_⟩
        have hh : e = 2 * (e / 2) + 1 := by omega
        rw [g4, s5, t5, sq_pow]
        have e1 : valI E9 C ^ e = valI E9 C ^ (2 * (e / 2)) * valI E9 C := by
          conv => lhs; rw [hh]
          rw [Int.pow_succ]
        rw [e1, Int.mul_assoc, Int.mul_comm (valI E9 C ^ _)]
      · obtain ⟨L, g1, g2, g3, g4⟩ := ih (e / 2) (2 * m + 1) A S' he2 r1 (by omega) ls l5 l6 hA s4
        refine ⟨L, Ev.step (fun k => power_even k e A C h1 h0 e64) (Ev.bind s1 (Ev.bind s2 g1)), g2, g3, ?_⟩
        rw [g4, s5, sq_pow, show 2 * (e / 2) = e by omega]
theorem spec_power (b e : Nat) (hb : b ≤ 10) (he : e ≤ 1100) : ∃ L : List Int, Ev (fun k => spec_l06Power.f k (b : Int) (e : Int)) L ∧ L.length ≤ 4096 ∧ (∀ x ∈ L, 0 ≤ x ∧ x < E9) ∧ valI E9 L = ((b ^ e : Nat) : Int) := by
  have hE : E9 = 1000000000 := rfl
  obtain ⟨L, h1, h2, h3, h4⟩ := spec_power_l0 11 e 1 [1] [(b : Int)] (Nat.lt_of_le_of_lt he (by decide)) (by decide) (by simp) (by simp) (by omega) (by omega) (by simp [hE]) (by simp [hE]; omega)
  refine ⟨L, h1, h2, h3, ?_⟩
  rw [h4]
  simp [valI]
/-- What GreatPower tells. -/
def powG (b n : Int) : ByteArray × Bool := if (2 ≤ b ∧ b ≤ 10) ∧ (0 ≤ n ∧ n ≤ 1100) then fitsT (b.toNat ^ n.toNat) else (⟨#[]⟩, false)
theorem spec_fits (v : Nat) : spec_l06Fits.f (decN v) = some (fitsT v) := by
  unfold spec_l06Fits.f fitsT
  by_cases h : (decN v).size ≤ 800
  · rw [if_neg (by omega), if_pos h]
  · rw [if_pos (by omega), if_neg h]
theorem spec_greatPower (b n : Int) : Ev (fun k => spec_GreatPower.f k b n) (powG b n) := by
  have hj : ∀ (k : Nat) (z : Bool), spec_GreatPower.j0 (k + 1) b n z = if z = true then (some ((⟨#[]⟩ : ByteArray), false)) else ((spec_l06Power.f k b n).bind fun t152 => ((spec_l06Text.f k t152).bind fun t155 => ((spec_l06Fits.f t155).bind fun bt156 => (some (bt156.1, bt156.2))))) := fun _ _ => rfl
  have hbad : powG b n = (⟨#[]⟩, false) → Ev (fun k => spec_GreatPower.j0 k b n true) (powG b n) := by
    intro h; rw [h]
    exact Ev.step (f := fun _ => some (⟨#[]⟩, false)) (fun k => by rw [hj, if_pos rfl]) (Ev.now _)
  unfold spec_GreatPower.f
  rw [spec_in]
  simp only [Option.bind_some, spec_in]
  by_cases h1 : 2 ≤ b ∧ b ≤ 10
  · rw [decide_eq_true h1]
    simp only [if_true]
    by_cases h2 : 0 ≤ n ∧ n ≤ 1100
    · rw [decide_eq_true h2]
      have e : powG b n = fitsT (b.toNat ^ n.toNat) := by unfold powG; rw [if_pos ⟨h1, h2⟩]
      obtain ⟨L, l1, l2, l3, l4⟩ := spec_power b.toNat n.toNat (by omega) (by omega)
      rw [show ((b.toNat : Nat) : Int) = b by omega, show ((n.toNat : Nat) : Int) = n by omega] at l1
      have ht := spec_text L (by omega) l3
      rw [l4, Int.toNat_natCast] at ht
      rw [e]
      refine Ev.step (fun k => by rw [hj, if_neg (by simp)]) (Ev.bind l1 (Ev.bind ht ?_))
      rw [spec_fits]
      exact Ev.now _
    · rw [decide_eq_false h2]
      exact hbad (by unfold powG; rw [if_neg (fun hh => h2 hh.2)])
  · rw [decide_eq_false h1]
    exact hbad (by unfold powG; rw [if_neg (fun hh => h1 hh.1)])
theorem impl_digitsOf_l0 (s : ByteArray) (hs : s.size ≤ 100000) (hd : ∀ b ∈ s.data.toList, isDg b) : ∀ (d i : Nat) (T : List Int), s.size - i = d → i ≤ s.size → T.length = i → (∀ x ∈ T, 0 ≤ x ∧ x < 10) → valI 10 T = ((valD (s.data.toList.take i) : Nat) : Int) →
    ∃ T' : List Int, Ev (fun k => impl_digitsOf.l0 k s (List.replicate (s.size - i) 0 ++ T) (s.size : Int) (i : Int)) T' ∧ T'.length = s.size ∧ (∀ x ∈ T', 0 ≤ x ∧ x < 10) ∧ valI 10 T' = ((valD s.data.toList : Nat) : Int) := by
  intro d
  induction d with
  | zero =>
    intro i T hd2 hi hT hT2 hv
    obtain rfl : i = s.size := by omega
    rw [List.take_of_length_le (by simp)] at hv
    refine ⟨T, ?_, hT, hT2, hv⟩
    rw [show s.size - s.size = 0 by omega]
    exact Ev.step (f := fun _ => some T) (fun k => by simp only [impl_digitsOf.l0]; rw [if_neg (by omega)]; simp) (Ev.now _)
  | succ d ih =>
    intro i T hd2 hi hT hT2 hv
    have hlt : i < s.size := by omega
    have hb := bt_list s i hlt
    have hdg := hd _ (List.getElem_mem (l := s.data.toList) (n := i) (by simpa using hlt))
    unfold isDg at hdg
    have htk := List.take_succ_eq_append_getElem (l := s.data.toList) (i := i) (by simpa using hlt)
    generalize s.data.toList[i]'(by simpa using hlt) = b at *
    obtain ⟨T', h1, h2⟩ := ih (i + 1) (((b.toNat : Int) - 48) :: T) (by omega) (by omega) (by simp; omega) (by
      intro x hx
      rcases List.mem_cons.1 hx with e | e
      · omega
      · exact hT2 x e) (by
      rw [htk, valD_snoc]
      simp only [valI]
      rw [hv]; omega)
    refine ⟨T', Ev.step (fun k => ?_) h1, h2⟩
    simp only [impl_digitsOf.l0]
    have e1 : wrap64 (wrap64 ((s.size : Int) - 1) - (i : Int)) = ((s.size - (i + 1) : Nat) : Int) := by
      rw [w64 (x := (s.size : Int) - 1) (by omega) (by omega), w64 (by omega) (by omega)]; omega
    rw [if_pos (by omega), if_pos (by omega), if_pos (by omega), e1, if_pos (by omega), if_pos (by simp; omega), w64s (by omega), hb, show ((b.toNat : Int) - 48) % 256 = (b.toNat : Int) - 48 by omega, Int.toNat_natCast,
      show s.size - i = (s.size - (i + 1)) + 1 by omega, set_last]
theorem impl_digitsOf (s : ByteArray) (hs : s.size ≤ 100000) (hd : ∀ b ∈ s.data.toList, isDg b) :
    ∃ T' : List Int, Ev (fun k => impl_digitsOf.f k s) T' ∧ T'.length = s.size ∧ (∀ x ∈ T', 0 ≤ x ∧ x < 10) ∧ valI 10 T' = ((valD s.data.toList : Nat) : Int) := by
  obtain ⟨T', h1, h2⟩ := impl_digitsOf_l0 s hs hd s.size 0 [] (by omega) (by omega) rfl (by simp) (by simp [valI, valD])
  refine ⟨T', ?_, h2⟩
  unfold impl_digitsOf.f
  simp only [if_pos (show (0 : Int) ≤ (s.size : Int) by omega), Int.toNat_natCast, if_pos (show s.size ≤ 35184372088832 by omega)]
  simpa using h1
theorem impl_figs_l1 (l : List Int) (n : Nat) (hn : n ≤ l.length) (hl : l.length ≤ 100000) (h9 : ∀ x ∈ l, 0 ≤ x ∧ x < 10) (h1 : 1 ≤ n) (h0 : 1 < n → l.getD (n - 1) 0 ≠ 0) :
    ∀ (d i : Nat) (T : List Int), n - i = d → i ≤ n → T.length = i → dgI T → vM T = valI 10 (l.take i) → (1 ≤ i → T.head? = some (48 + l.getD (i - 1) 0)) →
    Ev (fun k => impl_figuresOf.l1 k l (n : Int) (List.replicate (n - i) 0 ++ T) (n : Int) (i : Int)) (decN (valI 10 (l.take n)).toNat) := by
  intro d
  induction d with
  | zero =>
    intro i T hd hi hT hT2 hv hh
    obtain rfl : i = n := by omega
    have he := text_decN T hT2 (by omega) (by
      intro c hc h3
      have := hh h1
      rw [hc] at this
      have h4 := Option.some.inj this
      have h5 := h0 (by omega)
      omega)
    rw [hv] at he
    rw [← he, show i - i = 0 by omega]
    exact Ev.step (f := fun _ => some (strOfNums T)) (fun k => by simp only [impl_figuresOf.l1]; rw [if_neg (by omega)]; simp) (Ev.now _)
  | succ d ih =>
    intro i T hd hi hT hT2 hv hh
    have hx := h9 _ (getD_mem l i (by omega))
    refine Ev.step (fun k => ?_) (ih (i + 1) ((48 + l.getD i 0) :: T) (by omega) (by omega) (by simp; omega) (by
      intro c hc
      rcases List.mem_cons.1 hc with e | e
      · omega
      · exact hT2 c e) (by
      rw [valI_take_succ 10 l i (by omega), ← hv]
      simp only [vM]
      rw [hT, show 48 + l.getD i 0 - 48 = l.getD i 0 by omega, Int.mul_comm]; omega) (by intro _; rfl))
    simp only [impl_figuresOf.l1]
    have e1 : wrap64 (wrap64 ((n : Int) - 1) - (i : Int)) = ((n - (i + 1) : Nat) : Int) := by
      rw [w64 (x := (n : Int) - 1) (by omega) (by omega), w64 (by omega) (by omega)]; omega
    rw [if_pos (by omega), if_pos (by omega), if_pos (by omega), e1, if_pos (by omega), if_pos (by simp; omega), w64s (by omega), rd_nat, w64 (x := 48 + l.getD i 0) (by omega) (by omega), show (48 + l.getD i 0) % 256 = 48 + l.getD i 0 by omega, Int.toNat_natCast,
      show n - i = (n - (i + 1)) + 1 by omega, set_last]
theorem impl_figs_l0 (l : List Int) (hl : l.length ≤ 100000) (h9 : ∀ x ∈ l, 0 ≤ x ∧ x < 10) : ∀ n : Nat, n ≤ l.length → 1 ≤ n → valI 10 (l.take n) = valI 10 l →
    Ev (fun k => impl_figuresOf.l0 k l (n : Int)) (decN (valI 10 l).toNat) := by
  have hj : ∀ (n : Nat), n ≤ l.length → 1 ≤ n → (1 < n → l.getD (n - 1) 0 ≠ 0) → valI 10 (l.take n) = valI 10 l → Ev (fun k => impl_figuresOf.j1 k l (n : Int)) (decN (valI 10 l).toNat) := by
    intro n hn h1 h0 hv
    have h := impl_figs_l1 l n hn hl h9 h1 h0 n 0 [] (by omega) (by omega) rfl (by intro c hc; simp at hc) (by simp [vM, valI]) (by omega)
    rw [hv] at h
    refine Ev.step (fun k => ?_) h
    simp only [impl_figuresOf.j1]
    rw [if_pos (by omega), Int.toNat_natCast, if_pos (by omega)]
    simp
  intro n
  induction n with
  | zero => intro _ h; omega
  | succ n ih =>
    intro hn h1 hv
    by_cases h2 : 1 < n + 1
    · by_cases h0 : l.getD n 0 = 0
      · have hv2 : valI 10 (l.take n) = valI 10 l := by
          rw [valI_take_succ 10 l n (by omega), h0] at hv
          omega
        refine Ev.step (fun k => ?_) (ih (by omega) (by omega) hv2)
        simp only [impl_figuresOf.l0]
        rw [if_pos (by omega), w64 (by omega) (by omega), show ((n + 1 : Nat) : Int) - 1 = (n : Int) by omega, if_pos (by omega), if_pos (by omega), rd_nat, if_pos h0]
      · refine Ev.step (fun k => ?_) (hj (n + 1) hn h1 (fun _ => h0) hv)
        simp only [impl_figuresOf.l0]
        rw [if_pos (by omega), w64 (by omega) (by omega), show ((n + 1 : Nat) : Int) - 1 = (n : Int) by omega, if_pos (by omega), if_pos (by omega), rd_nat, if_neg h0]
    · refine Ev.step (fun k => ?_) (hj (n + 1) hn h1 (fun h => absurd h h2) hv)
      simp only [impl_figuresOf.l0]
      rw [if_neg (by omega)]
theorem impl_figuresOf (l : List Int) (h1 : 1 ≤ l.length) (hl : l.length ≤ 100000) (h9 : ∀ x ∈ l, 0 ≤ x ∧ x < 10) : Ev (fun k => impl_figuresOf.f k l) (decN (valI 10 l).toNat) := by
  unfold impl_figuresOf.f
  exact impl_figs_l0 l hl h9 l.length (by omega) h1 (by rw [List.take_of_length_le (by omega)])
/-- A round of the carrying. -/
def nextC (l : List Int) (i : Nat) : List Int :=
  let y := l.set i (l.getD i 0 % 10)
  let y' := if l.getD i 0 / 10 ≠ 0 ∧ i + 1 = l.length then y ++ [0] else y
  y'.set (i + 1) (y'.getD (i + 1) 0 + l.getD i 0 / 10)
theorem set_out (l : List Int) (i : Nat) (v : Int) (h : l.length ≤ i) : l.set i v = l := List.set_eq_of_length_le h
theorem set_same (l : List Int) (i : Nat) : l.set i (l.getD i 0) = l := by
  apply List.ext_getElem?
  intro j
  by_cases h : i = j
  · subst h
    by_cases h2 : i < l.length
    · rw [List.getElem?_set_self h2, List.getD_eq_getElem?_getD, List.getElem?_eq_getElem h2]; rfl
    · rw [List.getElem?_eq_none (by simp; omega), List.getElem?_eq_none (by omega)]
  · rw [List.getElem?_set_ne h]
theorem impl_carr_round (l : List Int) (i : Nat) (hi : i < l.length) (hl : l.length ≤ 100000) (hx : -1000000000000 ≤ l.getD i 0 ∧ l.getD i 0 ≤ 1000000000000) (hy : -1000000000000 ≤ l.getD (i + 1) 0 ∧ l.getD (i + 1) 0 ≤ 1000000000000) (k : Nat) :
    impl_carried.l0 (k + 3) l (i : Int) = impl_carried.l0 k (nextC l i) ((i + 1 : Nat) : Int) := by
  have hj2 : ∀ (k : Nat) (y : List Int) (r : Int) (z : Bool), impl_carried.j2 (k + 1) y (i : Int) r z = if z = true then (if y.length < 17592186044416 then ((some (y ++ [0] : List Int)).bind fun y157 => (if (wrap64 ((i : Int) + 1)) < (y157.length : Int) then (if 0 ≤ (wrap64 ((i : Int) + 1)) then (impl_carried.l0 k (y157.set ((wrap64 ((i : Int) + 1)) : Int).toNat (wrap64 ((rd y157 (wrap64 ((i : Int) + 1))) + r))) (wrap64 ((i : Int) + 1))) else (none)) else (impl_carried.l0 k y157 (wrap64 ((i : Int) + 1))))) else (none)) else (if (wrap64 ((i : Int) + 1)) < (y.length : Int) then (if 0 ≤ (wrap64 ((i : Int) + 1)) then (impl_carried.l0 k (y.set ((wrap64 ((i : Int) + 1)) : Int).toNat (wrap64 ((rd y (wrap64 ((i : Int) + 1))) + r))) (wrap64 ((i : Int) + 1))) else (none)) else (impl_carried.l0 k y (wrap64 ((i : Int) + 1)))) := fun _ _ _ _ => rfl
  have hj1 : ∀ (k : Nat) (y : List Int) (r : Int), impl_carried.j1 (k + 1) y (i : Int) r = if r = 0 then (impl_carried.j2 k y (i : Int) r false) else (impl_carried.j2 k y (i : Int) r ((wrap64 ((i : Int) + 1)) == (y.length : Int))) := fun _ _ _ => rfl
  have hl0 : ∀ (k : Nat), impl_carried.l0 (k + 1) l (i : Int) = if (i : Int) < (l.length : Int) then (if 0 ≤ (i : Int) then ((some (l.set (i : Int).toNat (Int.tmod (rd l i) 10) : List Int)).bind fun y153 => (if (rd y153 i) < 0 then (impl_carried.j1 k (y153.set (i : Int).toNat (wrap64 ((rd y153 i) + 10))) i (wrap64 ((wrap64 (Int.tdiv (rd l i) 10)) - 1))) else (impl_carried.j1 k y153 i (wrap64 (Int.tdiv (rd l i) 10))))) else (none)) else (some l) := fun _ => rfl
  have hi1 : wrap64 ((i : Int) + 1) = ((i + 1 : Nat) : Int) := w64s (by omega)
  generalize hxx : l.getD i 0 = x at *
  have h2 : ∀ k, impl_carried.j1 (k + 2) (l.set i (x % 10)) (i : Int) (x / 10) = impl_carried.l0 k (nextC l i) ((i + 1 : Nat) : Int) := by
    intro k
    have hlen : (l.set i (x % 10)).length = l.length := by simp
    have hge : (l.set i (x % 10)).getD (i + 1) 0 = l.getD (i + 1) 0 := getD_set_ne l i (i + 1) _ (by omega)
    unfold nextC
    rw [hxx, hj1]
    by_cases hr : x / 10 = 0
    · rw [if_pos hr, hj2, hi1, rd_nat, hge, hlen, if_neg (by simp), Int.toNat_natCast]
      simp only [if_neg (show ¬ (x / 10 ≠ 0 ∧ i + 1 = l.length) from fun h => h.1 hr), hge]
      by_cases h3 : i + 1 < l.length
      · rw [if_pos (by omega), if_pos (by omega), w64 (by omega) (by omega)]
      · rw [if_neg (by omega), set_out (l.set i (x % 10)) (i + 1) _ (by omega)]
    · rw [if_neg hr, hj2, hi1, hlen]
      by_cases h3 : i + 1 = l.length
      · have hz : (l.set i (x % 10) ++ [0]).getD (i + 1) 0 = 0 := by
          rw [List.getD_eq_getElem?_getD, List.getElem?_append_right (by simp; omega)]
          simp [h3]
        rw [if_pos (beq_iff_eq.mpr (by omega)), if_pos (by omega)]
        simp only [Option.bind_some, if_pos (show x / 10 ≠ 0 ∧ i + 1 = l.length from ⟨hr, h3⟩), hz]
        rw [if_pos (by simp; omega), if_pos (by omega), rd_nat, hz, Int.toNat_natCast, w64 (by omega) (by omega)]
      · simp only [if_neg (show ¬ (x / 10 ≠ 0 ∧ i + 1 = l.length) from fun h => h3 h.2), hge]
        rw [if_neg (fun hh => by have := beq_iff_eq.mp hh; omega), rd_nat, hge, Int.toNat_natCast]
        by_cases h4 : i + 1 < l.length
        · rw [if_pos (by omega), if_pos (by omega), w64 (by omega) (by omega)]
        · exfalso; omega
  rw [hl0, if_pos (by omega), if_pos (by omega), rd_nat, hxx, Int.toNat_natCast]
  simp only [Option.bind_some, rd_nat]
  rw [getD_set_eq l i _ hi]
  by_cases hn : 0 ≤ x
  · rw [tmodN hn, tdivN hn, if_neg (by omega), w64 (by omega) (by omega)]
    exact h2 k
  · have e1 : Int.tdiv x 10 = -((-x) / 10) := by
      have := Int.neg_tdiv (a := -x) (b := 10)
      rw [Int.neg_neg] at this
      rw [this, tdivN (by omega)]
    have e2 : Int.tmod x 10 = -((-x) % 10) := by
      have := Int.neg_tmod (-x) 10
      rw [Int.neg_neg] at this
      rw [this, tmodN (by omega)]
    rw [e1, e2]
    by_cases hm : (-x) % 10 = 0
    · rw [if_neg (by omega), w64 (by omega) (by omega), show -((-x) % 10) = x % 10 by omega, show -((-x) / 10) = x / 10 by omega]
      exact h2 k
    · rw [if_pos (by omega), w64 (x := -((-x) / 10)) (by omega) (by omega), w64 (x := -((-x) / 10) - 1) (by omega) (by omega), w64 (x := -((-x) % 10) + 10) (by omega) (by omega), List.set_set,
        show -((-x) % 10) + 10 = x % 10 by omega, show -((-x) / 10) - 1 = x / 10 by omega]
      exact h2 k
theorem pw10 (i : Nat) : (10 : Int) ^ i = ((10 ^ i : Nat) : Int) := by rw [Int.natCast_pow]; rfl
theorem pw10_pos (i : Nat) : (0 : Int) < 10 ^ i := by rw [pw10]; have : 0 < 10 ^ i := Nat.pow_pos (by omega); omega
theorem pw10_lt {i j : Nat} (h : (10 : Int) ^ i < 10 ^ j) : i < j := by
  rw [pw10, pw10] at h
  rcases Nat.lt_or_ge i j with h1 | h1
  · exact h1
  · have := Nat.pow_le_pow_right (n := 10) (by omega) h1; omega
theorem nextC_val (l : List Int) (i : Nat) (hi : i < l.length) : valI 10 (nextC l i) = valI 10 l := by
  unfold nextC
  have h1 := valI_set 10 (l.getD i 0 % 10) l i hi
  have hlen : (l.set i (l.getD i 0 % 10)).length = l.length := by simp
  generalize hx : l.getD i 0 = x at *
  have hk : (10 : Int) ^ i * (x % 10 - x) + 10 ^ (i + 1) * (x / 10) = 0 := by
    rw [Int.pow_succ, show x % 10 - x = -(10 * (x / 10)) by omega]
    grind
  by_cases hc : x / 10 ≠ 0 ∧ i + 1 = l.length
  · simp only [if_pos hc]
    have h2 : valI 10 (l.set i (x % 10) ++ [0]) = valI 10 (l.set i (x % 10)) := by rw [valI_append]; simp [valI]
    have hz : (l.set i (x % 10) ++ [0]).getD (i + 1) 0 = 0 := by
      rw [List.getD_eq_getElem?_getD, List.getElem?_append_right (by simp; omega)]
      simp [hc.2]
    have h3 := valI_set 10 ((l.set i (x % 10) ++ [0]).getD (i + 1) 0 + x / 10) (l.set i (x % 10) ++ [0]) (i + 1) (by simp; omega)
    rw [h3, h2, h1, hz, show (0 : Int) + x / 10 - 0 = x / 10 by omega]
    omega
  · simp only [if_neg hc]
    by_cases h4 : i + 1 < l.length
    · have h3 := valI_set 10 ((l.set i (x % 10)).getD (i + 1) 0 + x / 10) (l.set i (x % 10)) (i + 1) (by omega)
      rw [h3, h1, show (l.set i (x % 10)).getD (i + 1) 0 + x / 10 - (l.set i (x % 10)).getD (i + 1) 0 = x / 10 by omega]
      omega
    · have hr : x / 10 = 0 := by
        rcases Classical.em (x / 10 = 0) with h | h
        · exact h
        · exact absurd ⟨h, by omega⟩ hc
      rw [List.set_eq_of_length_le (by omega), h1]
      rw [hr] at hk
      omega
theorem nextC_get (l : List Int) (i j : Nat) (_hi : i < l.length) (hj : j ≠ i) (hj1 : j ≠ i + 1) : (nextC l i).getD j 0 = l.getD j 0 := by
  unfold nextC
  simp only
  rw [getD_set_ne _ _ _ _ (by omega)]
  split
  · by_cases h : j < l.length
    · rw [List.getD_eq_getElem?_getD, List.getElem?_append_left (by simpa using h), ← List.getD_eq_getElem?_getD, getD_set_ne _ _ _ _ (by omega)]
    · rw [List.getD_eq_getElem?_getD, List.getElem?_eq_none (by simp; omega), List.getD_eq_getElem?_getD, List.getElem?_eq_none (by omega)]
  · rw [getD_set_ne _ _ _ _ (by omega)]
theorem nextC_i (l : List Int) (i : Nat) (hi : i < l.length) : (nextC l i).getD i 0 = l.getD i 0 % 10 := by
  unfold nextC
  simp only
  rw [getD_set_ne _ _ _ _ (by omega)]
  split
  · rw [List.getD_eq_getElem?_getD, List.getElem?_append_left (by simpa using hi), ← List.getD_eq_getElem?_getD, getD_set_eq _ _ _ hi]
  · rw [getD_set_eq _ _ _ hi]
theorem nextC_i1 (l : List Int) (i : Nat) (_hi : i < l.length) (h : i + 1 < (nextC l i).length) : (nextC l i).getD (i + 1) 0 = l.getD (i + 1) 0 + l.getD i 0 / 10 := by
  unfold nextC at h ⊢
  simp only at h ⊢
  rw [List.length_set] at h
  rw [getD_set_eq _ _ _ h]
  congr 1
  split
  · rename_i hc
    rw [getD_out l (i + 1) (by omega), List.getD_eq_getElem?_getD, List.getElem?_append_right (by simp; omega)]
    simp [hc.2]
  · rw [getD_set_ne _ _ _ _ (by omega)]
theorem nextC_len (l : List Int) (i : Nat) : (nextC l i).length = if l.getD i 0 / 10 ≠ 0 ∧ i + 1 = l.length then l.length + 1 else l.length := by
  unfold nextC
  simp only [List.length_set]
  split <;> simp
theorem impl_carr_run (M : Int) (hM : 10 ≤ M ∧ M ≤ 100000000000) (N D : Nat) (hD : D ≤ N) (hN : N ≤ 90000) (V : Int) (hV : 0 ≤ V ∧ V < 10 ^ D) :
    ∀ (d i : Nat) (l : List Int), N + 1 - i = d → i ≤ l.length → l.length ≤ N + 1 → 1 ≤ l.length → (∀ j, j < i → 0 ≤ l.getD j 0 ∧ l.getD j 0 < 10) → (-(2 * M) ≤ l.getD i 0 ∧ l.getD i 0 ≤ 2 * M) → (∀ j, i < j → -M ≤ l.getD j 0 ∧ l.getD j 0 ≤ M) → valI 10 l = V →
    ∃ l' : List Int, Ev (fun k => impl_carried.l0 k l (i : Int)) l' ∧ (∀ x ∈ l', 0 ≤ x ∧ x < 10) ∧ valI 10 l' = V ∧ 1 ≤ l'.length ∧ l'.length ≤ N + 1 := by
  intro d
  have hdone : ∀ (i : Nat) (l : List Int), i = l.length → l.length ≤ N + 1 → 1 ≤ l.length → (∀ j, j < i → 0 ≤ l.getD j 0 ∧ l.getD j 0 < 10) → valI 10 l = V →
      ∃ l' : List Int, Ev (fun k => impl_carried.l0 k l (i : Int)) l' ∧ (∀ x ∈ l', 0 ≤ x ∧ x < 10) ∧ valI 10 l' = V ∧ 1 ≤ l'.length ∧ l'.length ≤ N + 1 := by
    intro i l hi hl h1 h9 hv
    refine ⟨l, Ev.step (f := fun _ => some l) (fun k => by simp only [impl_carried.l0]; rw [if_neg (by omega)]) (Ev.now _), ?_, hv, h1, hl⟩
    intro x hx
    obtain ⟨j, hj, rfl⟩ := List.getElem_of_mem hx
    have := h9 j (by omega)
    rw [List.getD_eq_getElem?_getD, List.getElem?_eq_getElem hj] at this
    exact this
  induction d with
  | zero =>
    intro i l hd hi hl h1 h9 _ _ hv
    exact hdone i l (by omega) hl h1 h9 hv
  | succ d ih =>
    intro i l hd hi hl h1 h9 hx hM2 hv
    by_cases hlt : i < l.length
    · have hvn := nextC_val l i hlt
      have hnl := nextC_len l i
      have hsplit := valI_split 10 l i (by omega)
      have hlow := valI_range 10 (by omega) (l.take i) (by
        intro x hx
        obtain ⟨j, hj, rfl⟩ := List.getElem_of_mem hx
        have hj2 : j < i := by simp at hj; omega
        have := h9 j hj2
        rw [List.getD_eq_getElem?_getD, List.getElem?_eq_getElem (by omega)] at this
        simpa using this)
      have hti : (l.take i).length = i := by simp; omega
      rw [hti] at hlow
      have hgrow : l.getD i 0 / 10 ≠ 0 ∧ i + 1 = l.length → l.length + 1 ≤ N + 1 := by
        intro hc
        have hdr : valI 10 (l.drop i) = l.getD i 0 := by
          rw [List.drop_eq_getElem_cons hlt, List.drop_eq_nil_of_le (by omega)]
          simp [valI, List.getD_eq_getElem?_getD, List.getElem?_eq_getElem hlt]
        rw [hdr] at hsplit
        have hp := pw10_pos i
        have h0 : 0 ≤ l.getD i 0 := by
          rcases Int.lt_or_le (l.getD i 0) 0 with h | h
          · exfalso
            have : (10 : Int) ^ i * l.getD i 0 ≤ 10 ^ i * (-1) := Int.mul_le_mul_of_nonneg_left (by omega) (by omega)
            omega
          · exact h
        have h10 : 10 ≤ l.getD i 0 := by omega
        have h4 : (10 : Int) ^ i * 10 ≤ 10 ^ i * l.getD i 0 := Int.mul_le_mul_of_nonneg_left h10 (by omega)
        rw [← Int.pow_succ] at h4
        have := pw10_lt (i := i + 1) (j := D) (by omega)
        omega
      have hlen' : (nextC l i).length ≤ N + 1 := by
        rw [hnl]; split
        · rename_i hc; exact hgrow hc
        · exact hl
      have hlen1 : i + 1 ≤ (nextC l i).length ∧ 1 ≤ (nextC l i).length := by rw [hnl]; split <;> omega
      obtain ⟨l', h2, h3⟩ := ih (i + 1) (nextC l i) (by omega) hlen1.1 hlen' hlen1.2
        (by
          intro j hj
          by_cases hji : j = i
          · subst hji; rw [nextC_i l j hlt]; omega
          · rw [nextC_get l i j hlt hji (by omega)]; exact h9 j (by omega))
        (by
          by_cases h5 : i + 1 < (nextC l i).length
          · rw [nextC_i1 l i hlt h5]
            have := hM2 (i + 1) (by omega)
            omega
          · rw [getD_out _ _ (by omega)]; omega)
        (by
          intro j hj
          rw [nextC_get l i j hlt (by omega) (by omega)]
          exact hM2 j (by omega))
        (by rw [hvn]; exact hv)
      refine ⟨l', ?_, h3⟩
      have hy := hM2 (i + 1) (by omega)
      have hround := fun k => impl_carr_round l i hlt (by omega) (by omega) (by omega) k
      obtain ⟨K, hK⟩ := h2
      refine ⟨K + 3, fun n hn => ?_⟩
      obtain ⟨m, rfl⟩ : ∃ m, n = m + 3 := ⟨n - 3, by omega⟩
      show impl_carried.l0 (m + 3) l (i : Int) = some l'
      rw [hround m]
      exact hK m (by omega)
    · exact hdone i l (by omega) hl h1 h9 hv
theorem impl_carried (M : Int) (hM : 10 ≤ M ∧ M ≤ 100000000000) (l : List Int) (D : Nat) (hl : 1 ≤ l.length ∧ l.length ≤ 40000) (hD : D ≤ 40000) (hb : ∀ x ∈ l, -M ≤ x ∧ x ≤ M) (hv : 0 ≤ valI 10 l ∧ valI 10 l < 10 ^ D) :
    ∃ l' : List Int, Ev (fun k => impl_carried.f k l) l' ∧ (∀ x ∈ l', 0 ≤ x ∧ x < 10) ∧ valI 10 l' = valI 10 l ∧ 1 ≤ l'.length ∧ l'.length ≤ max l.length D + 1 := by
  unfold impl_carried.f
  have hget : ∀ j, -M ≤ l.getD j 0 ∧ l.getD j 0 ≤ M := by
    intro j
    by_cases h : j < l.length
    · exact hb _ (getD_mem l j h)
    · rw [getD_out l j (by omega)]; omega
  exact impl_carr_run M hM (max l.length D) D (by omega) (by omega) (valI 10 l) hv (max l.length D + 1) 0 l (by omega) (by omega) (by omega) hl.1 (by omega) (by have := hget 0; omega) (fun j _ => hget j) rfl
theorem impl_in (a b c : Int) : impl_within.f a b c = some (decide (b ≤ a ∧ a ≤ c)) := by
  unfold impl_within.f
  by_cases h : a ≥ b
  · rw [if_pos h]; simp; omega
  · rw [if_neg h]; simp; omega
theorem impl_dig (a : Int) : impl_isDigit.f a = some (decide (48 ≤ a ∧ a ≤ 57)) := by
  unfold impl_isDigit.f
  by_cases h : a ≥ 48
  · rw [if_pos h]; simp; omega
  · rw [if_neg h]; simp; omega
theorem impl_digs_l0 (s : ByteArray) (hs : s.size ≤ 140737488351232) : ∀ (d i : Nat), s.size - i = d → Ev (fun k => impl_areDigits.l0 k s (s.size : Int) i) (digB s i) := by
  intro d
  induction d with
  | zero =>
    intro i hd
    rw [digB_end s i (by omega)]
    exact Ev.step (f := fun _ => some true) (fun k => by simp only [impl_areDigits.l0]; rw [if_neg (by omega)]) (Ev.now _)
  | succ d ih =>
    intro i hd
    by_cases h1 : 48 ≤ bt s i ∧ bt s i ≤ 57
    · rw [digB_yes s i h1]
      exact Ev.step (fun k => by simp only [impl_areDigits.l0]; rw [if_pos (by omega), if_pos (by omega), if_pos (by omega), impl_dig]; simp only [Option.bind_some]; rw [if_pos (decide_eq_true h1), w64 (by omega) (by omega)]; rfl) (ih (i + 1) (by omega))
    · rw [digB_no s i (by omega) (by omega)]
      exact Ev.step (f := fun _ => some false) (fun k => by simp only [impl_areDigits.l0]; rw [if_pos (by omega), if_pos (by omega), if_pos (by omega), impl_dig]; simp only [Option.bind_some]; rw [if_neg (by simpa using h1)]) (Ev.now _)
theorem impl_digs (s : ByteArray) (hs : s.size ≤ 140737488351232) : Ev (fun k => impl_areDigits.f k s) (digB s 0) := by
  unfold impl_areDigits.f; exact impl_digs_l0 s hs s.size 0 (by omega)
theorem impl_fig (s : ByteArray) (hs : s.size ≤ 140737488351232) : Ev (fun k => impl_FiguresOk.f k s) (figOk s) := by
  unfold impl_FiguresOk.f
  rw [impl_in]
  simp only [Option.bind_some]
  by_cases h1 : 1 ≤ s.size ∧ s.size ≤ 800
  · have e1 : decide ((1 : Int) ≤ (s.size : Int) ∧ (s.size : Int) ≤ 800) = true := decide_eq_true (by omega)
    simp only [e1, if_true]
    refine Ev.bind (impl_digs s hs) ?_
    by_cases h2 : digB s 0 = true
    · simp only [h2, if_true, if_pos (show (0 : Int) < (s.size : Int) by omega)]
      by_cases h3 : bt s 0 = 48
      · simp only [if_pos h3]
        have e : figOk s = ((s.size : Int) == 1) := by
          unfold figOk
          by_cases h4 : s.size = 1
          · simp [h2, h3, h4]
          · have h5 : ¬ (s.size : Int) = 1 := by omega
            have h6 : 1 < s.size := by omega
            simp [h2, h3, h5, h6]
        rw [e]; exact Ev.now _
      · simp only [if_neg h3]
        have e : figOk s = true := by unfold figOk; simp [h2, h3, h1]
        rw [e]; exact Ev.now _
    · simp only [if_neg h2]
      have e : figOk s = false := by unfold figOk; simp [h2]
      rw [e]; exact Ev.now _
  · have e1 : decide ((1 : Int) ≤ (s.size : Int) ∧ (s.size : Int) ≤ 800) = false := decide_eq_false (by omega)
    have e : figOk s = false := by unfold figOk; rw [decide_eq_false h1]; rfl
    simp only [e1, e]
    exact Ev.now _
theorem impl_right (v : Nat) (hs : (decN v).size ≤ 140737488351232) : Ev (fun k => impl_right.f k (decN v)) (fitsT v) := by
  unfold impl_right.f fitsT
  refine Ev.bind (impl_fig _ hs) ?_
  rw [figOk_decN]
  by_cases h : (decN v).size ≤ 800
  · rw [decide_eq_true h, if_pos h]; exact Ev.now _
  · rw [decide_eq_false h, if_neg h]; exact Ev.now _
theorem decN_small (v : Nat) (h : v < 10 ^ 100000) : (decN v).size ≤ 140737488351232 := by
  have := (decN_size v 100000 (by omega)).2 h; omega
theorem valD_pow (l : List UInt8) (h : ∀ b ∈ l, isDg b) (n : Nat) (hn : l.length ≤ n) : valD l < 10 ^ n := Nat.lt_of_lt_of_le (valD_lt l h) (Nat.pow_le_pow_right (by omega) hn)
theorem val800 (a : ByteArray) (ha : figOk a = true) : valD a.data.toList < 10 ^ 800 := by
  obtain ⟨a1, a2, a3, _⟩ := figOk_parts a ha
  exact valD_pow _ a3 800 (by rw [size_data]; exact a2)
theorem pow_double (a c : Nat) (h : a + 1 ≤ c) : 10 ^ a + 10 ^ a ≤ 10 ^ c := by
  have h1 := Nat.pow_le_pow_right (n := 10) (by omega) h
  rw [Nat.pow_succ] at h1
  omega
/-- What GreatMul tells. -/
def mulG (a b : ByteArray) : ByteArray × Bool := if figOk a = true ∧ figOk b = true then fitsT (valD a.data.toList * valD b.data.toList) else (⟨#[]⟩, false)
theorem impl_mul_l1 (X Y : List Int) (hY : ∀ x ∈ Y, 0 ≤ x ∧ x < 10) (hlX : X.length ≤ 1000) (hlY : Y.length ≤ 1000) (i : Nat) (hi : i < X.length) (p : Int) (hp : 0 ≤ p ∧ p < 10) (W : Int) :
    ∀ (d k : Nat) (out : List Int), Y.length - k = d → k ≤ Y.length → out.length = X.length + Y.length → (∀ j, 0 ≤ out.getD j 0 ∧ out.getD j 0 ≤ 81 * ((i : Int) + 1)) → (∀ j, i + k ≤ j → out.getD j 0 ≤ 81 * (i : Int)) → valI 10 out = W + p * 10 ^ i * valI 10 (Y.take k) →
    ∃ out' : List Int, out'.length = X.length + Y.length ∧ (∀ j, 0 ≤ out'.getD j 0 ∧ out'.getD j 0 ≤ 81 * ((i : Int) + 1)) ∧ valI 10 out' = W + p * 10 ^ i * valI 10 Y ∧
      ∀ r, Ev (fun n => impl_GreatMul.l0 n Y out' X (X.length : Int) ((i + 1 : Nat) : Int)) r → Ev (fun n => impl_GreatMul.l1 n Y out (i : Int) p X (X.length : Int) (i : Int) Y (Y.length : Int) (k : Int)) r := by
  have hl : ∀ (n : Nat) (out : List Int) (k : Nat), impl_GreatMul.l1 (n + 1) Y out (i : Int) p X (X.length : Int) (i : Int) Y (Y.length : Int) (k : Int) = if (k : Int) < (Y.length : Int) then (if 0 ≤ (k : Int) then (if (k : Int) < (Y.length : Int) then (if 0 ≤ (wrap64 ((i : Int) + k)) then (if (wrap64 ((i : Int) + k)) < (out.length : Int) then (impl_GreatMul.l1 n Y (out.set ((wrap64 ((i : Int) + k)) : Int).toNat (wrap64 ((rd out (wrap64 ((i : Int) + k))) + (wrap64 (p * (rd Y k)))))) i p X (X.length : Int) i Y (Y.length : Int) (wrap64 ((k : Int) + 1))) else (none)) else (none)) else (none)) else (none)) else (impl_GreatMul.l0 n Y out X (X.length : Int) (wrap64 ((i : Int) + 1))) := fun _ _ _ => rfl
  intro d
  induction d with
  | zero =>
    intro k out hd hk hol ho hz hv
    obtain rfl : k = Y.length := by omega
    rw [List.take_of_length_le (by omega)] at hv
    exact ⟨out, hol, ho, hv, fun r hr => Ev.step (fun n => by rw [hl, if_neg (by omega), w64s (by omega)]) hr⟩
  | succ d ih =>
    intro k out hd hk hol ho hz hv
    have hy := hY _ (getD_mem Y k (by omega))
    have hvY := valI_take_succ 10 Y k (by omega)
    have hob := ho (i + k)
    have hob2 := hz (i + k) (by omega)
    have hlt : i + k < out.length := by omega
    have hm0 : 0 ≤ p * Y.getD k 0 := Int.mul_nonneg hp.1 hy.1
    have hm1 : p * Y.getD k 0 ≤ 81 := by
      have := Int.mul_le_mul (show p ≤ 9 by omega) (show Y.getD k 0 ≤ 9 by omega) hy.1 (by omega)
      omega
    have hset := valI_set 10 (out.getD (i + k) 0 + p * Y.getD k 0) out (i + k) hlt
    have hget : ∀ j, (out.set (i + k) (out.getD (i + k) 0 + p * Y.getD k 0)).getD j 0 = if j = i + k then out.getD (i + k) 0 + p * Y.getD k 0 else out.getD j 0 := by
      intro j
      by_cases h : j = i + k
      · subst h; rw [if_pos rfl, getD_set_eq _ _ _ hlt]
      · rw [if_neg h, getD_set_ne _ _ _ _ (fun h2 => h h2.symm)]
    have hv' : valI 10 (out.set (i + k) (out.getD (i + k) 0 + p * Y.getD k 0)) = W + p * 10 ^ i * valI 10 (Y.take (k + 1)) := by
      rw [hset, hvY, hv, show out.getD (i + k) 0 + p * Y.getD k 0 - out.getD (i + k) 0 = p * Y.getD k 0 by omega, Int.pow_add, Int.mul_add]
      generalize (10 : Int) ^ i = q
      generalize (10 : Int) ^ k = u
      generalize Y.getD k 0 = v
      rw [show q * u * (p * v) = p * q * (u * v) by grind]
      omega
    have b1 : -9223372036854775808 ≤ (i : Int) + (k : Int) ∧ (i : Int) + (k : Int) < 9223372036854775808 := by omega
    have b2 : -9223372036854775808 ≤ p * Y.getD k 0 ∧ p * Y.getD k 0 < 9223372036854775808 := by omega
    have b3 : -9223372036854775808 ≤ out.getD (i + k) 0 + p * Y.getD k 0 ∧ out.getD (i + k) 0 + p * Y.getD k 0 < 9223372036854775808 := by omega
    have b5 : k < 9223372036854775807 := by omega
    have f0 : (k : Int) < (Y.length : Int) := by omega
    have f1 : (0 : Int) ≤ (k : Int) := by omega
    have f3 : (0 : Int) ≤ ((i + k : Nat) : Int) := by omega
    have f4 : ((i + k : Nat) : Int) < (out.length : Int) := by omega
    have n1 : Y.length - (k + 1) = d := by omega
    have n2 : k + 1 ≤ Y.length := by omega
    obtain ⟨out', h1, h2, h3, h4⟩ := ih (k + 1) (out.set (i + k) (out.getD (i + k) 0 + p * Y.getD k 0)) n1 n2 (by rw [List.length_set]; exact hol) (by
      intro j
      rw [hget]
      have := ho j
      split <;> omega) (by
      intro j hj
      rw [hget, if_neg (by omega)]
      exact hz j (by omega)) hv'
    refine ⟨out', h1, h2, h3, fun r hr => Ev.step (fun n => ?_) (h4 r hr)⟩
    rw [hl, if_pos f0, if_pos f1, if_pos f0, w64 b1.1 b1.2, show (i : Int) + (k : Int) = ((i + k : Nat) : Int) from rfl, if_pos f3, if_pos f4, rd_nat, rd_nat, w64 b2.1 b2.2, w64 b3.1 b3.2, w64s b5, Int.toNat_natCast]
theorem impl_mul_l0 (X Y : List Int) (hX : ∀ x ∈ X, 0 ≤ x ∧ x < 10) (hY : ∀ x ∈ Y, 0 ≤ x ∧ x < 10) (hX1 : 1 ≤ X.length) (hlX : X.length ≤ 1000) (hlY : Y.length ≤ 1000) (V : Nat) (hV : valI 10 X * valI 10 Y = (V : Int)) (hV2 : (V : Int) < 10 ^ 2000) (hsm : (decN V).size ≤ 140737488351232) :
    ∀ (d i : Nat) (out : List Int), X.length - i = d → i ≤ X.length → out.length = X.length + Y.length → (∀ j, 0 ≤ out.getD j 0 ∧ out.getD j 0 ≤ 81 * (i : Int)) → valI 10 out = valI 10 (X.take i) * valI 10 Y →
    Ev (fun n => impl_GreatMul.l0 n Y out X (X.length : Int) (i : Int)) (fitsT V) := by
  have hl : ∀ (n : Nat) (out : List Int) (i : Nat), impl_GreatMul.l0 (n + 1) Y out X (X.length : Int) (i : Int) = if (i : Int) < (X.length : Int) then (if 0 ≤ (i : Int) then (if (i : Int) < (X.length : Int) then (impl_GreatMul.l1 n Y out i (rd X i) X (X.length : Int) i Y (Y.length : Int) 0) else (none)) else (none)) else ((impl_carried.f n out).bind fun t178 => ((impl_figuresOf.f n t178).bind fun t181 => ((impl_right.f n t181).bind fun bt182 => (some (bt182.1, bt182.2))))) := fun _ _ _ => rfl
  intro d
  induction d with
  | zero =>
    intro i out hd hi hol ho hv
    obtain rfl : i = X.length := by omega
    rw [List.take_of_length_le (by omega), hV] at hv
    obtain ⟨l', hc, h9, hvl, hl1, hl2⟩ := impl_carried 1000000 (by omega) out 2000 ⟨by omega, by omega⟩ (by omega) (by
      intro x hx
      obtain ⟨j, hj, rfl⟩ := List.getElem_of_mem hx
      have := ho j
      rw [List.getD_eq_getElem?_getD, List.getElem?_eq_getElem hj] at this
      simp only [Option.getD_some] at this
      omega) (by rw [hv]; exact ⟨by omega, hV2⟩)
    rw [hv] at hvl
    have hf := impl_figuresOf l' hl1 (by omega) h9
    rw [hvl, Int.toNat_natCast] at hf
    exact Ev.step (fun n => by rw [hl, if_neg (by omega)]) (Ev.bind hc (Ev.bind hf (Ev.bind (impl_right V hsm) (Ev.now _))))
  | succ d ih =>
    intro i out hd hi hol ho hv
    have hx := hX _ (getD_mem X i (by omega))
    have hvX := valI_take_succ 10 X i (by omega)
    obtain ⟨out', h1, h2, h3, h4⟩ := impl_mul_l1 X Y hY hlX hlY i (by omega) (X.getD i 0) hx (valI 10 (X.take i) * valI 10 Y) Y.length 0 out (by omega) (by omega) hol (fun j => by have := ho j; omega) (fun j _ => (ho j).2) (by rw [hv]; simp [valI])
    have h5 := ih (i + 1) out' (by omega) (by omega) h1 (fun j => by have := h2 j; omega) (by rw [h3, hvX, Int.add_mul, Int.mul_comm (10 ^ i)])
    refine Ev.step (fun n => ?_) (h4 _ h5)
    rw [hl, if_pos (by omega), if_pos (by omega), if_pos (by omega), rd_nat]
    rfl
theorem lt_pow_le (v a c : Nat) (h : v < 10 ^ a) (hac : a ≤ c) : v < 10 ^ c := Nat.lt_of_lt_of_le h (Nat.pow_le_pow_right (by omega) hac)
theorem mul_lt_pow (x y a b : Nat) (hx : x < 10 ^ a) (hy : y < 10 ^ b) : x * y < 10 ^ (a + b) := by
  rw [Nat.pow_add]
  exact Nat.mul_lt_mul'' hx hy
theorem int_lt_pow (v c : Nat) (h : v < 10 ^ c) : (v : Int) < 10 ^ c := by
  rw [pw10]
  exact Int.ofNat_lt.2 h
theorem mul_small (a b : ByteArray) (h1 : figOk a = true) (h2 : figOk b = true) : ((valD a.data.toList * valD b.data.toList : Nat) : Int) < 10 ^ 2000 ∧ (decN (valD a.data.toList * valD b.data.toList)).size ≤ 140737488351232 := by
  have hpr := mul_lt_pow _ _ 800 800 (val800 a h1) (val800 b h2)
  exact ⟨int_lt_pow _ 2000 (lt_pow_le _ (800 + 800) 2000 hpr (by omega)), decN_small _ (lt_pow_le _ (800 + 800) 100000 hpr (by omega))⟩
theorem impl_greatMul (a b : ByteArray) (hsa : a.size ≤ 140737488351232) (hsb : b.size ≤ 140737488351232) : Ev (fun k => impl_GreatMul.f k a b) (mulG a b) := by
  have hj : ∀ (k : Nat) (z : Bool), impl_GreatMul.j0 (k + 1) a b z = if z = true then (some ((⟨#[]⟩ : ByteArray), false)) else ((impl_digitsOf.f k a).bind fun t169 => ((impl_digitsOf.f k b).bind fun t172 => (if 0 ≤ (wrap64 ((t169.length : Int) + (t172.length : Int))) then (if (wrap64 ((t169.length : Int) + (t172.length : Int)) : Int).toNat ≤ 35184372088832 then (impl_GreatMul.l0 k t172 (List.replicate (wrap64 ((t169.length : Int) + (t172.length : Int)) : Int).toNat 0) t169 (t169.length : Int) 0) else (none)) else (none)))) := fun _ _ => rfl
  have hbad : mulG a b = (⟨#[]⟩, false) → Ev (fun k => impl_GreatMul.j0 k a b true) (mulG a b) := by
    intro h; rw [h]
    exact Ev.step (f := fun _ => some (⟨#[]⟩, false)) (fun k => by rw [hj, if_pos rfl]) (Ev.now _)
  unfold impl_GreatMul.f
  refine Ev.bind (impl_fig a hsa) ?_
  by_cases h1 : figOk a = true
  · simp only [h1, if_true]
    refine Ev.bind (impl_fig b hsb) ?_
    by_cases h2 : figOk b = true
    · rw [h2]
      have e : mulG a b = fitsT (valD a.data.toList * valD b.data.toList) := by unfold mulG; rw [if_pos ⟨h1, h2⟩]
      obtain ⟨a1, a2, a3, _⟩ := figOk_parts a h1
      obtain ⟨b1, b2, b3, _⟩ := figOk_parts b h2
      obtain ⟨X, hX, hXl, hX9, hXv⟩ := impl_digitsOf a (by omega) a3
      obtain ⟨Y, hY, hYl, hY9, hYv⟩ := impl_digitsOf b (by omega) b3
      rw [e]
      refine Ev.step (fun k => by rw [hj, if_neg (by simp)]) (Ev.bind hX (Ev.bind hY ?_))
      have k1 : -9223372036854775808 ≤ (X.length : Int) + (Y.length : Int) ∧ (X.length : Int) + (Y.length : Int) < 9223372036854775808 := by omega
      have k2 : (0 : Int) ≤ ((X.length + Y.length : Nat) : Int) := by omega
      have k3 : X.length + Y.length ≤ 35184372088832 := by omega
      have k4 : 1 ≤ X.length := by omega
      have k5 : X.length ≤ 1000 := by omega
      have k6 : Y.length ≤ 1000 := by omega
      have hw : wrap64 ((X.length : Int) + (Y.length : Int)) = ((X.length + Y.length : Nat) : Int) := w64 k1.1 k1.2
      have hs := mul_small a b h1 h2
      rw [hw, Int.toNat_natCast]
      simp only [if_pos k2, if_pos k3]
      exact impl_mul_l0 X Y hX9 hY9 k4 k5 k6 (valD a.data.toList * valD b.data.toList) (by rw [hXv, hYv, Int.natCast_mul]) hs.1 hs.2 X.length 0 (List.replicate (X.length + Y.length) 0) (Nat.sub_zero _) (Nat.zero_le _) (by simp) (fun j => by rw [getD_zeros]; exact ⟨Int.le_refl _, by decide⟩) (by rw [valI_zeros]; simp [valI])
    · rw [Bool.not_eq_true] at h2
      rw [h2]
      exact hbad (by unfold mulG; rw [if_neg (fun hh => by rw [h2] at hh; exact absurd hh.2 (by simp))])
  · simp only [if_neg h1]
    exact hbad (by unfold mulG; rw [if_neg (fun hh => h1 hh.1)])
/-- The figures of a number, a nought of 0. -/
def dgz (m : Nat) (s : ByteArray) : ByteArray := if m = 0 then strOfNums [48] ++ s else dgs m s
theorem dgz_small (m : Nat) (s : ByteArray) (h : m < 10) : dgz m s = strOfNums [48 + (m : Int)] ++ s := by
  unfold dgz
  by_cases h0 : m = 0
  · subst h0; rfl
  · rw [if_neg h0, dgs_pos m s h0, show m / 10 = 0 by omega, dgs_zero, show m % 10 = m by omega]
theorem dgz_far (m : Nat) (s : ByteArray) (h : ¬ m < 10) : dgz m s = dgz (m / 10) (strOfNums [48 + ((m % 10 : Nat) : Int)] ++ s) := by
  unfold dgz
  rw [if_neg (by omega), if_neg (by omega), dgs_pos m s (by omega)]
theorem impl_dec_l0 (n : Int) (b : Bool) : ∀ (d m : Nat) (s : ByteArray), m < 10 ^ (d + 1) → m ≤ 9223372036854775808 → s.size + d ≤ 1000 →
    Ev (fun k => impl_Decimal.l0 k n s (if b then -(m : Int) else m)) (sgn (decide (n < 0)) (dgz m s)) := by
  have hr : ∀ (m : Nat) (s : ByteArray) (k : Nat), m ≤ 9223372036854775808 → s.size ≤ 1000 → impl_Decimal.l0 (k + 1) n s (if b then -(m : Int) else m) =
      if m < 10 then some (sgn (decide (n < 0)) (dgz m s)) else impl_Decimal.l0 k n (strOfNums [48 + ((m % 10 : Nat) : Int)] ++ s) (if b then -((m / 10 : Nat) : Int) else ((m / 10 : Nat) : Int)) := by
    intro m s k hm hs
    simp only [impl_Decimal.l0]
    rw [tdiv10 b m, tmod10 b m]
    have hw : wrap64 (if b then -((m / 10 : Nat) : Int) else ((m / 10 : Nat) : Int)) = if b then -((m / 10 : Nat) : Int) else ((m / 10 : Nat) : Int) := by
      apply w64 <;> (cases b <;> simp <;> omega)
    rw [hw, impl_in]
    have hin : decide ((-9 : Int) ≤ (if b then -(m : Int) else m) ∧ (if b then -(m : Int) else m) ≤ 9) = decide (m < 10) := by
      rw [decide_eq_decide]; cases b <;> simp <;> omega
    have htail : ∀ y : ByteArray, y.size ≤ 10 → y = strOfNums [48 + ((m % 10 : Nat) : Int)] → (if decide (m < 10) = true then (if n < 0 then (if 1 + (y ++ s).size ≤ 9223372036854775807 then some ((⟨#[45]⟩ : ByteArray) ++ (y ++ s)) else none) else some (y ++ s)) else impl_Decimal.l0 k n (y ++ s) (if b then -((m / 10 : Nat) : Int) else ((m / 10 : Nat) : Int))) = if m < 10 then some (sgn (decide (n < 0)) (dgz m s)) else impl_Decimal.l0 k n (strOfNums [48 + ((m % 10 : Nat) : Int)] ++ s) (if b then -((m / 10 : Nat) : Int) else ((m / 10 : Nat) : Int)) := by
      intro y hy hyy
      by_cases h1 : m < 10
      · rw [if_pos (decide_eq_true h1), if_pos h1, dgz_small m s h1]
        rw [show m % 10 = m by omega] at hyy
        rw [← hyy]
        unfold sgn
        by_cases h2 : n < 0
        · rw [if_pos h2, if_pos (by rw [ByteArray.size_append]; omega), if_pos (decide_eq_true h2)]
        · rw [if_neg h2, if_neg (by simpa using h2)]
      · rw [if_neg (by simpa using h1), if_neg h1, hyy]
    by_cases hd : b = true ∧ m % 10 ≠ 0
    · obtain ⟨rfl, hd⟩ := hd
      simp only [if_true] at hin htail ⊢
      rw [if_pos (by omega), w64 (x := - -((m % 10 : Nat) : Int)) (by omega) (by omega), Int.neg_neg, w64 (by omega) (by omega), show (48 + ((m % 10 : Nat) : Int)) % 256 = 48 + ((m % 10 : Nat) : Int) by omega]
      simp only [Option.bind_some]
      rw [if_pos (by rw [str_size]; simp; omega), hin]
      exact htail _ (by rw [str_size]; simp) rfl
    · have e : (if b then -((m % 10 : Nat) : Int) else ((m % 10 : Nat) : Int)) = ((m % 10 : Nat) : Int) := by
        cases b
        · rfl
        · simp only [if_true]; have : m % 10 = 0 := by simp at hd; exact hd
          rw [this]; rfl
      rw [e, if_neg (by omega), w64 (by omega) (by omega), show (48 + ((m % 10 : Nat) : Int)) % 256 = 48 + ((m % 10 : Nat) : Int) by omega]
      simp only [Option.bind_some]
      rw [if_pos (by rw [str_size]; simp; omega), hin]
      exact htail _ (by rw [str_size]; simp) rfl
  intro d
  induction d with
  | zero =>
    intro m s h hm hs
    exact Ev.step (f := fun _ => some (sgn (decide (n < 0)) (dgz m s))) (fun k => by rw [hr m s k hm (by omega), if_pos (by simpa using h)]) (Ev.now _)
  | succ d ih =>
    intro m s h hm hs
    by_cases h1 : m < 10
    · exact Ev.step (f := fun _ => some (sgn (decide (n < 0)) (dgz m s))) (fun k => by rw [hr m s k hm (by omega), if_pos h1]) (Ev.now _)
    · rw [dgz_far m s h1]
      exact Ev.step (fun k => by rw [hr m s k hm (by omega), if_neg h1]) (ih (m / 10) (strOfNums [48 + ((m % 10 : Nat) : Int)] ++ s) (by rw [Nat.pow_succ] at h; omega) (by omega) (by rw [ByteArray.size_append, str_size]; simp; omega))
theorem impl_dec (n : Int) (h0 : -9223372036854775808 ≤ n) (h1 : n < 9223372036854775808) : Ev (fun k => impl_Decimal.f k n) (decT n) := by
  unfold impl_Decimal.f
  have h' := impl_dec_l0 n (decide (n < 0)) 19 n.natAbs ⟨#[]⟩ (Nat.lt_of_le_of_lt (show n.natAbs ≤ 9223372036854775808 by omega) (by decide)) (by omega) (by simp [ByteArray.size])
  rw [← signed_of n] at h'
  have e : decT n = sgn (decide (n < 0)) (dgz n.natAbs ⟨#[]⟩) := by
    by_cases h : n = 0
    · subst h; rfl
    · rw [decT_sgn n h]; unfold dgz; rw [if_neg (by omega)]
  rw [e]
  exact h'
theorem fits_up (v w : Nat) (h : v ≤ w) (hf : ¬ (decN v).size ≤ 800) : ¬ (decN w).size ≤ 800 := by
  rw [decN_size _ _ (by omega)] at hf ⊢
  exact fun h2 => hf (Nat.lt_of_le_of_lt h h2)
theorem impl_power_l0 (b n : Nat) (hb : 2 ≤ b ∧ b ≤ 10) (hn : n ≤ 1100) : ∀ (d i : Nat), n - i = d → i ≤ n → (decN (b ^ i)).size ≤ 800 →
    Ev (fun k => impl_GreatPower.l0 k (b : Int) (decN (b ^ i)) (n : Int) (i : Int)) (fitsT (b ^ n)) := by
  have hr : ∀ (k i : Nat) (s : ByteArray), impl_GreatPower.l0 (k + 1) (b : Int) s (n : Int) (i : Int) = if (i : Int) < (n : Int) then ((impl_Decimal.f k b).bind fun t216 => ((impl_GreatMul.f k s t216).bind fun bt217 => (if bt217.2 = true then (impl_GreatPower.l0 k b bt217.1 n (wrap64 ((i : Int) + 1))) else (some ((⟨#[]⟩ : ByteArray), false))))) else (some (s, true)) := fun _ _ _ => rfl
  intro d
  induction d with
  | zero =>
    intro i hd hi hs
    obtain rfl : i = n := by omega
    have e : fitsT (b ^ i) = (decN (b ^ i), true) := by unfold fitsT; rw [if_pos hs]
    rw [e]
    exact Ev.step (f := fun _ => some (decN (b ^ i), true)) (fun k => by rw [hr, if_neg (by omega)]) (Ev.now _)
  | succ d ih =>
    intro i hd hi hs
    have hin : (i : Int) < (n : Int) := by omega
    have hi64 : i < 9223372036854775807 := by omega
    have h0 : -9223372036854775808 ≤ (b : Int) := by omega
    have h1 : (b : Int) < 9223372036854775808 := by omega
    have n1 : n - (i + 1) = d := by omega
    have n2 : i + 1 ≤ n := by omega
    have sb : (decN b).size ≤ 800 := (decN_size b 800 (by omega)).2 (lt_pow_le b 2 800 (Nat.lt_of_le_of_lt hb.2 (by decide)) (by omega))
    have hm := impl_greatMul (decN (b ^ i)) (decT (b : Int)) (Nat.le_trans hs (by omega)) (Nat.le_trans sb (by omega))
    have em : mulG (decN (b ^ i)) (decT (b : Int)) = fitsT (b ^ (i + 1)) := by
      have hd2 : decT (b : Int) = decN b := rfl
      unfold mulG
      rw [hd2, figOk_decN, figOk_decN, if_pos ⟨decide_eq_true hs, decide_eq_true sb⟩, valD_decN, valD_decN, Nat.pow_succ]
    rw [em] at hm
    by_cases hf : (decN (b ^ (i + 1))).size ≤ 800
    · have e : fitsT (b ^ (i + 1)) = (decN (b ^ (i + 1)), true) := by unfold fitsT; rw [if_pos hf]
      rw [e] at hm
      refine Ev.step (fun k => by rw [hr, if_pos hin, w64s hi64]) (Ev.bind (impl_dec (b : Int) h0 h1) (Ev.bind hm ?_))
      simp only [if_true]
      exact ih (i + 1) n1 n2 hf
    · have e : fitsT (b ^ (i + 1)) = (⟨#[]⟩, false) := by unfold fitsT; rw [if_neg hf]
      have e2 : fitsT (b ^ n) = (⟨#[]⟩, false) := by unfold fitsT; rw [if_neg (fits_up _ _ (Nat.pow_le_pow_right (by omega) n2) hf)]
      rw [e] at hm
      rw [e2]
      refine Ev.step (fun k => by rw [hr, if_pos hin, w64s hi64]) (Ev.bind (impl_dec (b : Int) h0 h1) (Ev.bind hm ?_))
      simp only [Bool.false_eq_true, if_false]
      exact Ev.now _
theorem impl_greatPower (b n : Int) : Ev (fun k => impl_GreatPower.f k b n) (powG b n) := by
  have hj : ∀ (k : Nat) (z : Bool), impl_GreatPower.j0 (k + 1) b n z = if z = true then (some ((⟨#[]⟩ : ByteArray), false)) else (impl_GreatPower.l0 k b (⟨#[49]⟩ : ByteArray) n 0) := fun _ _ => rfl
  have hbad : powG b n = (⟨#[]⟩, false) → Ev (fun k => impl_GreatPower.j0 k b n true) (powG b n) := by
    intro h; rw [h]
    exact Ev.step (f := fun _ => some (⟨#[]⟩, false)) (fun k => by rw [hj, if_pos rfl]) (Ev.now _)
  unfold impl_GreatPower.f
  rw [impl_in]
  simp only [Option.bind_some, impl_in]
  by_cases h1 : 2 ≤ b ∧ b ≤ 10
  · rw [decide_eq_true h1]
    simp only [if_true]
    by_cases h2 : 0 ≤ n ∧ n ≤ 1100
    · rw [decide_eq_true h2]
      have e : powG b n = fitsT (b.toNat ^ n.toNat) := by unfold powG; rw [if_pos ⟨h1, h2⟩]
      have o : decN (b.toNat ^ 0) = (⟨#[49]⟩ : ByteArray) := by rw [Nat.pow_zero]; decide +kernel
      have hl := impl_power_l0 b.toNat n.toNat (by omega) (by omega) n.toNat 0 (Nat.sub_zero _) (Nat.zero_le _) (by rw [o]; decide)
      rw [o, show ((b.toNat : Nat) : Int) = b by omega, show ((n.toNat : Nat) : Int) = n by omega] at hl
      rw [e]
      exact Ev.step (f := fun k => impl_GreatPower.l0 k b (⟨#[49]⟩ : ByteArray) n 0) (fun k => by rw [hj, if_neg (by simp)]) hl
    · rw [decide_eq_false h2]
      exact hbad (by unfold powG; rw [if_neg (fun hh => h2 hh.2)])
  · rw [decide_eq_false h1]
    exact hbad (by unfold powG; rw [if_neg (fun hh => h1 hh.1)])
theorem FnExactGreatPower : laws_FnExactGreatPower.Pure := by
  intro b n _ _
  refine Ev.rounds ?_
  unfold laws_FnExactGreatPower.f
  exact Ev.bind (spec_greatPower b n) (Ev.bind (impl_greatPower b n) (by simpa using Ev.now true))
end Go.Proofs.Ythbbdnicpbbnpaa.Pure
