/- What the reference's Nearest tells: the number nearest to the figures times the power of ten; and the texts of figures and exponents. -/
import Derived.Test.YtkjpelgdppmbjaaDoorMFnExactNearestx4
import Derived.Test.YtkjpelgdppmbjaaDoorMFnExactNearestx5
import Derived.Test.YtkjpelgdppmbjaaDoorK1
namespace Go.Proofs.YtkjpelgdppmbjaaDoor.Pure
open Go.RowKit Go.Proofs.YtkjpelgdppmbjaaDoor.MFnExactNearest Go.Proofs.YtkjpelgdppmbjaaDoorW.PrintWords Go.Proofs.YtkjpelgdppmbjaaDoorW.PrintLast Go.Proofs.YtkjpelgdppmbjaaDoor.CB
/-- The value of numbers, the lowest first, to a base. -/
def valI (B : Int) : List Int → Int
  | [] => 0
  | x :: l => x + B * valI B l
theorem valI_append (B : Int) (l m : List Int) : valI B (l ++ m) = valI B l + B ^ l.length * valI B m := by
  induction l with
  | nil => simp [valI]
  | cons x l ih =>
    simp only [List.cons_append, valI, ih, List.length_cons, Int.pow_succ]
    grind
theorem valI_take_succ (B : Int) (l : List Int) (i : Nat) (h : i < l.length) : valI B (l.take (i + 1)) = valI B (l.take i) + B ^ i * l.getD i 0 := by
  rw [List.take_succ_eq_append_getElem h, valI_append]
  have : (l.take i).length = i := by simp; omega
  rw [this]
  simp [valI, List.getD_eq_getElem?_getD, List.getElem?_eq_getElem h]
theorem valI_zeros (B : Int) (n : Nat) : valI B (List.replicate n 0) = 0 := by
  induction n with
  | zero => rfl
  | succ n ih => rw [List.replicate_succ]; simp [valI, ih]
theorem valI_split (B : Int) (l : List Int) (i : Nat) (h : i ≤ l.length) : valI B l = valI B (l.take i) + B ^ i * valI B (l.drop i) := by
  conv => lhs; rw [← List.take_append_drop i l]
  rw [valI_append]
  have : (l.take i).length = i := by simp; omega
  rw [this]
theorem valI_range (B : Int) (hB : 0 < B) (l : List Int) (h : ∀ x ∈ l, 0 ≤ x ∧ x < B) : 0 ≤ valI B l ∧ valI B l < B ^ l.length := by
  induction l with
  | nil => simp [valI]
  | cons x l ih =>
    have h1 := h x (by simp)
    have h2 := ih (fun y hy => h y (by simp [hy]))
    simp only [valI, List.length_cons, Int.pow_succ]
    have h3 : 0 ≤ B * valI B l := Int.mul_nonneg (by omega) h2.1
    have h4 : B * valI B l ≤ B * (B ^ l.length - 1) := Int.mul_le_mul_of_nonneg_left (by omega) (by omega)
    have h5 : B * (B ^ l.length - 1) = B ^ l.length * B - B := by grind
    omega
theorem rd_nat (l : List Int) (i : Nat) : rd l (i : Int) = l.getD i 0 := by unfold rd; rw [Int.toNat_natCast]
theorem getD_mem (l : List Int) (i : Nat) (h : i < l.length) : l.getD i 0 ∈ l := by
  rw [List.getD_eq_getElem?_getD, List.getElem?_eq_getElem h]; simp
theorem getD_out (l : List Int) (i : Nat) (h : l.length ≤ i) : l.getD i 0 = 0 := by rw [List.getD_eq_getElem?_getD, List.getElem?_eq_none h]; rfl
/-- Limbs of 32 bits. -/
def ok32 (l : List Int) : Prop := ∀ x ∈ l, 0 ≤ x ∧ x < (4294967296 : Int)
theorem ok32_nil : ok32 [] := fun _ h => by cases h
theorem ok32_getD {l : List Int} (h : ok32 l) (i : Nat) : 0 ≤ l.getD i 0 ∧ l.getD i 0 < (4294967296 : Int) := by
  by_cases hi : i < l.length
  · exact h _ (getD_mem l i hi)
  · rw [getD_out _ _ (by omega)]; decide
theorem ok32_snoc {l : List Int} {x : Int} (h : ok32 l) (h0 : 0 ≤ x) (h1 : x < (4294967296 : Int)) : ok32 (l ++ [x]) := by
  intro y hy
  rcases List.mem_append.1 hy with e | e
  · exact h y e
  · rw [List.mem_singleton.1 e]; exact ⟨h0, h1⟩
theorem ok32_take {l : List Int} (h : ok32 l) (n : Nat) : ok32 (l.take n) := fun x hx => h x (List.mem_of_mem_take hx)
theorem ok32_drop {l : List Int} (h : ok32 l) (n : Nat) : ok32 (l.drop n) := fun x hx => h x (List.mem_of_mem_drop hx)
theorem val32 {l : List Int} (h : ok32 l) : 0 ≤ valI (4294967296 : Int) l ∧ valI (4294967296 : Int) l < (4294967296 : Int) ^ l.length := valI_range (4294967296 : Int) (by decide) l h
theorem valI_snoc (B : Int) (l : List Int) (x : Int) : valI B (l ++ [x]) = valI B l + B ^ l.length * x := by rw [valI_append]; simp [valI]
theorem valI_drop (B : Int) (l : List Int) (i : Nat) (h : i < l.length) : valI B (l.drop i) = l.getD i 0 + B * valI B (l.drop (i + 1)) := by
  rw [List.drop_eq_getElem_cons h]; simp [valI, List.getD_eq_getElem?_getD, List.getElem?_eq_getElem h]
theorem b32_pos (n : Nat) : (0 : Int) < (4294967296 : Int) ^ n := Int.pow_pos (by decide)
/-- How many limbs there are, without noughts at the end. -/
def tl (l : List Int) : Nat → Nat
  | 0 => 0
  | n + 1 => if l.getD n 0 = 0 then tl l n else n + 1
theorem tl_le (l : List Int) : ∀ n, tl l n ≤ n
  | 0 => Nat.le_refl _
  | n + 1 => by
    unfold tl
    split
    · exact Nat.le_succ_of_le (tl_le l n)
    · exact Nat.le_refl _
theorem tl_top (l : List Int) : ∀ n, tl l n ≠ 0 → l.getD (tl l n - 1) 0 ≠ 0
  | 0 => fun h => absurd rfl h
  | n + 1 => by
    unfold tl
    split
    · exact tl_top l n
    · rename_i h; intro _; simpa using h
theorem tl_val (l : List Int) : ∀ n, n ≤ l.length → valI (4294967296 : Int) (l.take n) = valI (4294967296 : Int) (l.take (tl l n))
  | 0 => fun _ => rfl
  | n + 1 => fun hn => by
    unfold tl
    split
    · rename_i h
      rw [valI_take_succ (4294967296 : Int) l n (by omega), h, Int.mul_zero, Int.add_zero]
      exact tl_val l n (by omega)
    · rfl
/-- The trimmed length of a list. -/
def tlen (l : List Int) : Nat := tl l l.length
theorem tlen_le (l : List Int) : tlen l ≤ l.length := tl_le l _
theorem tlen_val (l : List Int) : valI (4294967296 : Int) l = valI (4294967296 : Int) (l.take (tlen l)) := by
  have := tl_val l l.length (Nat.le_refl _)
  rwa [List.take_length] at this
theorem tlen_lt {l : List Int} (h : ok32 l) : valI (4294967296 : Int) l < (4294967296 : Int) ^ tlen l := by
  rw [tlen_val]
  have := (val32 (ok32_take h (tlen l))).2
  rwa [List.length_take, Nat.min_eq_left (tlen_le l)] at this
theorem top_ge {l : List Int} (h : ok32 l) (n : Nat) (hn : n + 1 ≤ l.length) : l.getD n 0 * (4294967296 : Int) ^ n ≤ valI (4294967296 : Int) (l.take (n + 1)) ∧ valI (4294967296 : Int) (l.take (n + 1)) < (l.getD n 0 + 1) * (4294967296 : Int) ^ n := by
  rw [valI_take_succ (4294967296 : Int) l n (by omega)]
  have h1 := val32 (ok32_take h n)
  rw [List.length_take, Nat.min_eq_left (by omega)] at h1
  rw [Int.mul_comm ((4294967296 : Int) ^ n) (l.getD n 0), Int.add_mul, Int.one_mul]
  omega
theorem tlen_ge {l : List Int} (h : ok32 l) (n : Nat) (hn : tlen l = n + 1) : (4294967296 : Int) ^ n ≤ valI (4294967296 : Int) l := by
  have h1 := top_ge h n (by have := tlen_le l; omega)
  have h2 := tl_top l l.length (by show tlen l ≠ 0; omega)
  have h3 : l.getD n 0 ≠ 0 := by
    have : tl l l.length - 1 = n := by show tlen l - 1 = n; omega
    rwa [this] at h2
  have h4 := ok32_getD h n
  have h5 : 1 * (4294967296 : Int) ^ n ≤ l.getD n 0 * (4294967296 : Int) ^ n := Int.mul_le_mul_of_nonneg_right (by omega) (Int.le_of_lt (b32_pos n))
  have h6 := tlen_val l
  rw [hn] at h6
  rw [h6]
  rw [Int.one_mul] at h5
  exact Int.le_trans h5 h1.1
theorem tlen_zero {l : List Int} (hn : tlen l = 0) : valI (4294967296 : Int) l = 0 := by
  rw [tlen_val, hn]; rfl
theorem b32_mono {m n : Nat} (h : m ≤ n) : (4294967296 : Int) ^ m ≤ (4294967296 : Int) ^ n := by
  obtain ⟨d, rfl⟩ := Nat.exists_eq_add_of_le h
  rw [Int.pow_add]
  have h1 := b32_pos m
  have h2 := b32_pos d
  have : (4294967296 : Int) ^ m * 1 ≤ (4294967296 : Int) ^ m * (4294967296 : Int) ^ d := Int.mul_le_mul_of_nonneg_left (by omega) (by omega)
  omega
/-- Fewer limbs are less. -/
theorem less_len {a b : List Int} (ha : ok32 a) (hb : ok32 b) (h : tlen a < tlen b) : valI (4294967296 : Int) a < valI (4294967296 : Int) b := by
  have h1 := tlen_lt ha
  have h2 := tlen_ge hb (tlen b - 1) (by omega)
  have h3 := b32_mono (m := tlen a) (n := tlen b - 1) (by omega)
  omega
/-- The first limb from above that differs tells. -/
theorem less_at {a b : List Int} (ha : ok32 a) (hb : ok32 b) (i : Nat) (h1 : i + 1 ≤ a.length) (h2 : i + 1 ≤ b.length) (h : a.getD i 0 < b.getD i 0) : valI (4294967296 : Int) (a.take (i + 1)) < valI (4294967296 : Int) (b.take (i + 1)) := by
  have k1 := (top_ge ha i h1).2
  have k2 := (top_ge hb i h2).1
  have k3 : (a.getD i 0 + 1) * (4294967296 : Int) ^ i ≤ b.getD i 0 * (4294967296 : Int) ^ i := Int.mul_le_mul_of_nonneg_right (by omega) (Int.le_of_lt (b32_pos i))
  omega
/-- What a difference is, when no limb of what is taken lies above. -/
theorem sub_end {a b out : List Int} {w : Int} (hb : ok32 b) (ho : ok32 out) (hol : out.length = a.length) (hw : w = 0 ∨ w = 1) (hle : valI (4294967296 : Int) b ≤ valI (4294967296 : Int) a) (hlt : valI (4294967296 : Int) a < (4294967296 : Int) ^ a.length)
    (hv : valI (4294967296 : Int) out + valI (4294967296 : Int) (b.take a.length) = valI (4294967296 : Int) a + w * (4294967296 : Int) ^ a.length) : valI (4294967296 : Int) out = valI (4294967296 : Int) a - valI (4294967296 : Int) b := by
  have h1 := val32 ho
  rw [hol] at h1
  have hp := b32_pos a.length
  have h2 : valI (4294967296 : Int) b = valI (4294967296 : Int) (b.take a.length) := by
    rcases Nat.le_total a.length b.length with h | h
    · have h3 := valI_split (4294967296 : Int) b a.length h
      have h4 := val32 (ok32_take hb a.length)
      have h5 := val32 (ok32_drop hb a.length)
      have h6 : valI (4294967296 : Int) (b.drop a.length) = 0 := by
        rcases Int.lt_or_le 0 (valI (4294967296 : Int) (b.drop a.length)) with h | h
        · exfalso
          have : (4294967296 : Int) ^ a.length * 1 ≤ (4294967296 : Int) ^ a.length * valI (4294967296 : Int) (b.drop a.length) := Int.mul_le_mul_of_nonneg_left (by omega) (Int.le_of_lt hp)
          omega
        · omega
      rw [h6, Int.mul_zero, Int.add_zero] at h3
      exact h3
    · rw [List.take_of_length_le h]
  rcases hw with rfl | rfl
  · rw [Int.zero_mul] at hv; omega
  · exfalso; rw [Int.one_mul] at hv; omega
/-- The figures of a number, ahead of a text; nothing of 0. -/
def dgs (m : Nat) (s : ByteArray) : ByteArray := if m = 0 then s else dgs (m / 10) (strOfNums [48 + ((m % 10 : Nat) : Int)] ++ s)
termination_by m
decreasing_by omega
theorem dgs_zero (s : ByteArray) : dgs 0 s = s := by rw [dgs]; rfl
theorem dgs_pos (m : Nat) (s : ByteArray) (h : m ≠ 0) : dgs m s = dgs (m / 10) (strOfNums [48 + ((m % 10 : Nat) : Int)] ++ s) := by rw [dgs, if_neg h]
/-- What Decimal tells. -/
def decT (n : Int) : ByteArray := if n = 0 then ⟨#[48]⟩ else if n < 0 then ⟨#[45]⟩ ++ dgs n.natAbs ⟨#[]⟩ else dgs n.natAbs ⟨#[]⟩
def sgn (b : Bool) (s : ByteArray) : ByteArray := if b = true then ⟨#[45]⟩ ++ s else s
theorem decT_sgn (n : Int) (h : n ≠ 0) : decT n = sgn (decide (n < 0)) (dgs n.natAbs ⟨#[]⟩) := by
  unfold decT sgn; rw [if_neg h]; by_cases h1 : n < 0 <;> simp [h1]
theorem dgs_size : ∀ (d m : Nat) (s : ByteArray), m < 10 ^ d → (dgs m s).size ≤ s.size + d := by
  intro d
  induction d with
  | zero => intro m s h; obtain rfl : m = 0 := by omega
            rw [dgs_zero]; omega
  | succ d ih =>
    intro m s h
    by_cases h0 : m = 0
    · subst h0; rw [dgs_zero]; omega
    · rw [dgs_pos m s h0]
      have := ih (m / 10) (strOfNums [48 + ((m % 10 : Nat) : Int)] ++ s) (by rw [Nat.pow_succ] at h; omega)
      rw [ByteArray.size_append, str_size] at this
      simp only [List.length_cons, List.length_nil] at this; omega
theorem tdiv10 (b : Bool) (m : Nat) : Int.tdiv (if b then -(m : Int) else m) 10 = if b then -((m / 10 : Nat) : Int) else ((m / 10 : Nat) : Int) := by
  cases b with
  | false => simp only [Bool.false_eq_true, if_false]; rw [tdivN (Int.natCast_nonneg m)]; rfl
  | true => simp only [if_true]; rw [Int.neg_tdiv, tdivN (Int.natCast_nonneg m)]; rfl
theorem tmod10 (b : Bool) (m : Nat) : Int.tmod (if b then -(m : Int) else m) 10 = if b then -((m % 10 : Nat) : Int) else ((m % 10 : Nat) : Int) := by
  cases b with
  | false => simp only [Bool.false_eq_true, if_false]; rw [tmodN (Int.natCast_nonneg m)]; rfl
  | true => simp only [if_true]; rw [Int.neg_tmod, tmodN (Int.natCast_nonneg m)]; rfl
theorem signed_of (n : Int) : n = if decide (n < 0) then -(n.natAbs : Int) else (n.natAbs : Int) := by
  by_cases h : n < 0
  · rw [decide_eq_true h]; simp only [if_true]; omega
  · rw [decide_eq_false h]; simp only [Bool.false_eq_true, if_false]; omega
theorem byteArray_ext {a b : ByteArray} (h : a.data.toList = b.data.toList) : a = b := by
  cases a; cases b; congr; exact Array.toList_inj.mp h
theorem append_data (a b : ByteArray) : (a ++ b).data.toList = a.data.toList ++ b.data.toList := by simp
/-- From place i on a text has figures alone. -/
def digB (s : ByteArray) (i : Nat) : Bool := decide (∀ j : Nat, j < s.size → i ≤ j → 48 ≤ bt s j ∧ bt s j ≤ 57)
theorem digB_end (s : ByteArray) (i : Nat) (h : s.size ≤ i) : digB s i = true := by
  unfold digB; exact decide_eq_true (fun j h1 h2 => by omega)
theorem digB_no (s : ByteArray) (i : Nat) (h : i < s.size) (hb : bt s i < 48 ∨ bt s i > 57) : digB s i = false := by
  unfold digB
  refine decide_eq_false (fun H => ?_)
  have := H i h (Nat.le_refl _); omega
theorem digB_yes (s : ByteArray) (i : Nat) (hb : 48 ≤ bt s i ∧ bt s i ≤ 57) : digB s i = digB s (i + 1) := by
  unfold digB
  rw [decide_eq_decide]
  constructor
  · exact fun H j h1 h2 => H j h1 (by omega)
  · intro H j h1 h2
    rcases Nat.eq_or_lt_of_le h2 with e | e
    · subst e; exact hb
    · exact H j h1 e
/-- Right figures. -/
def figOk (s : ByteArray) : Bool := decide (1 ≤ s.size ∧ s.size ≤ 800) && digB s 0 && !(bt s 0 == 48 && decide (1 < s.size))
/-- The figures of a number as bytes; nothing of 0. The number of figures. -/
def dgL (m : Nat) : List UInt8 := (dgs m ⟨#[]⟩).data.toList
theorem dgs_split (m : Nat) : ∀ s : ByteArray, (dgs m s).data.toList = dgL m ++ s.data.toList := by
  induction m using Nat.strongRecOn with
  | _ m ih =>
    intro s
    by_cases h : m = 0
    · subst h; unfold dgL; rw [dgs_zero, dgs_zero]; rfl
    · unfold dgL
      rw [dgs_pos m s h, dgs_pos m ⟨#[]⟩ h, ih (m / 10) (by omega), ih (m / 10) (by omega), append_data, append_data, List.append_assoc]
      simp
theorem dgL_zero : dgL 0 = [] := by unfold dgL; rw [dgs_zero]
theorem dgL_pos (m : Nat) (h : m ≠ 0) : dgL m = dgL (m / 10) ++ [UInt8.ofNat (48 + m % 10)] := by
  unfold dgL
  rw [dgs_pos m _ h, dgs_split]
  unfold dgL
  congr 1
def valD : List UInt8 → Nat := List.foldl (fun n b => 10 * n + (b.toNat - 48)) 0
theorem valD_snoc (l : List UInt8) (b : UInt8) : valD (l ++ [b]) = 10 * valD l + (b.toNat - 48) := by unfold valD; rw [List.foldl_append]; rfl
def isDg (b : UInt8) : Prop := 48 ≤ b.toNat ∧ b.toNat ≤ 57
theorem snoc_cases {P : List UInt8 → Prop} (h0 : P []) (h1 : ∀ l b, P l → P (l ++ [b])) : ∀ l, P l := by
  intro l
  have : ∀ n (l : List UInt8), l.length = n → P l := by
    intro n
    induction n with
    | zero => intro l hl; rw [List.length_eq_zero_iff] at hl; rw [hl]; exact h0
    | succ n ih =>
      intro l hl
      have hne : l ≠ [] := by intro h; rw [h] at hl; simp at hl
      rw [← List.dropLast_concat_getLast hne]
      exact h1 _ _ (ih _ (by simp; omega))
  exact this l.length l rfl
theorem valD_lt : ∀ l : List UInt8, (∀ b ∈ l, isDg b) → valD l < 10 ^ l.length := by
  refine snoc_cases (fun _ => by simp [valD]) ?_
  intro l b ih h
  have h1 := ih (fun c hc => h c (by simp [hc]))
  have h2 := h b (by simp)
  rw [valD_snoc, List.length_append, List.length_singleton, Nat.pow_succ]
  unfold isDg at h2
  omega
/-- Figures without a nought ahead are those of their number. -/
theorem dgL_valD : ∀ l : List UInt8, (∀ b ∈ l, isDg b) → (∀ b, l.head? = some b → b.toNat ≠ 48) → dgL (valD l) = l := by
  refine snoc_cases (fun _ _ => by simp [valD, dgL_zero]) ?_
  intro l b ih h hh
  have h2 := h b (by simp)
  unfold isDg at h2
  have hpos : valD (l ++ [b]) ≠ 0 := by
    rw [valD_snoc]
    cases l with
    | nil => have := hh b (by simp); simp [valD]; omega
    | cons c l =>
      have hc := hh c (by simp)
      have hd := h c (by simp)
      unfold isDg at hd
      have hge : ∀ (l : List UInt8) (n : Nat), n ≤ List.foldl (fun n (b : UInt8) => 10 * n + (b.toNat - 48)) n l := by
        intro l
        induction l with
        | nil => intro n; exact Nat.le_refl n
        | cons d l ih => intro n; exact Nat.le_trans (show n ≤ 10 * n + (d.toNat - 48) by omega) (ih _)
      have := hge l (10 * 0 + (c.toNat - 48))
      unfold valD
      simp only [List.foldl_cons]
      omega
  rw [dgL_pos _ hpos, valD_snoc, show (10 * valD l + (b.toNat - 48)) / 10 = valD l by omega, show (10 * valD l + (b.toNat - 48)) % 10 = b.toNat - 48 by omega, show 48 + (b.toNat - 48) = b.toNat by omega]
  congr 1
  · refine ih (fun c hc => h c (by simp [hc])) ?_
    intro c hc
    cases l with
    | nil => simp at hc
    | cons d l => exact hh c (by simpa using hc)
  · simp
theorem dgL_len : ∀ (d m : Nat), m < 10 ^ d → (dgL m).length ≤ d := by
  intro d m h
  have := dgs_size d m ⟨#[]⟩ h
  have h2 : (dgL m).length = (dgs m ⟨#[]⟩).size := by unfold dgL; simp
  rw [h2]
  exact Nat.le_trans this (Nat.le_of_eq (Nat.zero_add d))
/-- What Decimal tells of a number that is not below 0, as bytes. -/
theorem decT_pos (n : Nat) (h : n ≠ 0) : (decT (n : Int)).data.toList = dgL n := by
  unfold decT dgL
  rw [if_neg (by omega), if_neg (by omega), Int.natAbs_natCast]
theorem digB_list (s : ByteArray) : digB s 0 = true ↔ ∀ b ∈ s.data.toList, isDg b := by
  unfold digB
  rw [decide_eq_true_iff]
  constructor
  · intro H b hb
    obtain ⟨j, hj, rfl⟩ := List.getElem_of_mem hb
    have := H j (by simpa using hj) (by omega)
    rw [bt_list s j (by simpa using hj)] at this
    unfold isDg; omega
  · intro H j hj _
    rw [bt_list s j hj]
    have := H _ (List.getElem_mem (l := s.data.toList) (by simpa using hj))
    unfold isDg at this; omega
/-- A text is the decimal of its value just when it is right. -/
theorem dec_of_val (s : ByteArray) (hd : ∀ b ∈ s.data.toList, isDg b) : (decT ((valD s.data.toList : Nat) : Int)).toList = s.toList ↔ (1 ≤ s.size ∧ ¬ (bt s 0 = 48 ∧ 1 < s.size)) := by
  rw [ByteArray.toList_eq, ByteArray.toList_eq]
  have hlen : s.data.toList.length = s.size := by simp
  rcases hl : s.data.toList with _ | ⟨b, l⟩
  · rw [hl] at hlen; simp at hlen
    constructor
    · intro h; exact absurd h (by simp [valD, decT])
    · intro h; omega
  · rw [hl] at hlen hd
    have hb : bt s 0 = (b.toNat : Int) := by
      have := bt_list s 0 (by simp at hlen; omega)
      simp only [hl, List.getElem_cons_zero] at this
      exact this
    simp only [List.length_cons] at hlen
    by_cases h0 : b.toNat = 48
    · by_cases h1 : l = []
      · subst h1
        have hv : valD [b] = 0 := by simp [valD, h0]
        rw [hv]
        constructor
        · intro _; simp at hlen; omega
        · intro _
          show [(48 : UInt8)] = [b]
          congr 1
          exact UInt8.toNat_inj.mp h0.symm
      · have hl1 : 1 ≤ l.length := by
          rcases l with _ | ⟨_, _⟩
          · exact absurd rfl h1
          · simp
        constructor
        · intro h
          exfalso
          have hv : valD (b :: l) = valD l := by unfold valD; simp [h0]
          rw [hv] at h
          have hlt := valD_lt l (fun c hc => hd c (by simp [hc]))
          by_cases hz : valD l = 0
          · rw [hz] at h
            have h4 : ([(48 : UInt8)] : List UInt8).length = (b :: l).length := congrArg List.length h
            simp only [List.length_cons, List.length_nil] at h4; omega
          · rw [decT_pos _ hz] at h
            have := congrArg List.length h
            have h3 := dgL_len _ _ hlt
            rw [List.length_cons] at this; omega
        · intro h; omega
    · have hb2 := hd b (by simp)
      unfold isDg at hb2
      have hv := dgL_valD (b :: l) hd (by intro c hc; simp at hc; rw [← hc]; exact h0)
      have hne : valD (b :: l) ≠ 0 := by intro h; rw [h, dgL_zero] at hv; simp at hv
      rw [decT_pos _ hne, hv]
      constructor
      · intro _; omega
      · intro _; rfl
/-- A number that is not below 0 in figures. -/
def decN (v : Nat) : ByteArray := decT (v : Int)
theorem decN_of (s : ByteArray) (hd : ∀ b ∈ s.data.toList, isDg b) (h1 : 1 ≤ s.size) (h2 : ¬ (bt s 0 = 48 ∧ 1 < s.size)) : decN (valD s.data.toList) = s := by
  have h := (dec_of_val s hd).2 ⟨h1, h2⟩
  rw [ByteArray.toList_eq, ByteArray.toList_eq] at h
  exact byteArray_ext h
theorem dgL_dg (m : Nat) : ∀ b ∈ dgL m, isDg b := by
  induction m using Nat.strongRecOn with
  | _ m ih =>
    by_cases h : m = 0
    · subst h; rw [dgL_zero]; simp
    · rw [dgL_pos m h]
      intro b hb
      rcases List.mem_append.1 hb with e | e
      · exact ih (m / 10) (by omega) b e
      · rw [List.mem_singleton.1 e]; unfold isDg
        have : (UInt8.ofNat (48 + m % 10)).toNat = 48 + m % 10 := by simp; omega
        rw [this]; omega
theorem valD_dgL (m : Nat) : valD (dgL m) = m := by
  induction m using Nat.strongRecOn with
  | _ m ih =>
    by_cases h : m = 0
    · subst h; rw [dgL_zero]; rfl
    · rw [dgL_pos m h, valD_snoc, ih (m / 10) (by omega)]
      have : (UInt8.ofNat (48 + m % 10)).toNat = 48 + m % 10 := by simp; omega
      rw [this]; omega
theorem decN_data (v : Nat) : (decN v).data.toList = if v = 0 then [48] else dgL v := by
  by_cases h : v = 0
  · subst h; rfl
  · rw [if_neg h]; exact decT_pos v h
theorem decN_dg (v : Nat) : ∀ b ∈ (decN v).data.toList, isDg b := by
  rw [decN_data]
  split
  · intro b hb; simp at hb; rw [hb]; exact ⟨by decide, by decide⟩
  · exact dgL_dg v
theorem valD_decN (v : Nat) : valD (decN v).data.toList = v := by
  rw [decN_data]
  split
  · rename_i h; rw [h]; rfl
  · exact valD_dgL v
theorem size_data (s : ByteArray) : s.data.toList.length = s.size := by simp
theorem decN_pos (v : Nat) : 1 ≤ (decN v).size := by
  rw [← size_data, decN_data]
  split
  · simp
  · rename_i h; rw [dgL_pos v h]; simp
theorem decN_size (v d : Nat) (hd : 1 ≤ d) : (decN v).size ≤ d ↔ v < 10 ^ d := by
  constructor
  · intro h
    have h1 := valD_lt _ (decN_dg v)
    rw [valD_decN, size_data] at h1
    exact Nat.lt_of_lt_of_le h1 (Nat.pow_le_pow_right (by omega) h)
  · intro h
    rw [← size_data, decN_data]
    split
    · simpa using hd
    · exact dgL_len d v h
theorem figOk_parts (s : ByteArray) (h : figOk s = true) : 1 ≤ s.size ∧ s.size ≤ 800 ∧ (∀ b ∈ s.data.toList, isDg b) ∧ ¬ (bt s 0 = 48 ∧ 1 < s.size) := by
  unfold figOk at h
  simp at h
  obtain ⟨⟨h1, h2⟩, h3⟩ := h
  refine ⟨h1.1, h1.2, (digB_list s).1 h2, ?_⟩
  intro ⟨h4, h5⟩
  rcases h3 with h | h
  · exact h h4
  · omega
theorem figOk_dec (s : ByteArray) (h : figOk s = true) : decN (valD s.data.toList) = s := by
  obtain ⟨h1, h2, h3, h4⟩ := figOk_parts s h
  exact decN_of s h3 h1 h4
theorem ev_const {α : Type} {x : Option α} {r : α} (h : x = some r) : Ev (fun _ => x) r := by rw [h]; exact Ev.now r
theorem ev_if {α : Type} {c : Prop} [Decidable c] {f g : Nat → Option α} {r : α} (h : c) (k : Ev f r) : Ev (fun n => if c then f n else g n) r := Ev.congr (fun _ => if_pos h) k
theorem ev_else {α : Type} {c : Prop} [Decidable c] {f g : Nat → Option α} {r : α} (h : ¬ c) (k : Ev g r) : Ev (fun n => if c then f n else g n) r := Ev.congr (fun _ => if_neg h) k
theorem spec_pow_l0 (n : Nat) (hn : n ≤ 63) : ∀ (d i : Nat), n - i = d → i ≤ n → Ev (fun k => spec_l03Pow.l0 k (n : Int) ((2 ^ i : Nat) : Int) (i : Int)) ((2 ^ n : Nat) : Int) := by
  intro d
  induction d with
  | zero =>
    intro i hd hi
    obtain rfl : i = n := by omega
    exact Ev.step (f := fun _ => some ((2 ^ i : Nat) : Int)) (fun k => by simp only [spec_l03Pow.l0]; rw [if_neg (by omega)]) (Ev.now _)
  | succ d ih =>
    intro i hd hi
    refine Ev.step (fun k => ?_) (ih (i + 1) (by omega) (by omega))
    simp only [spec_l03Pow.l0]
    have hp : 2 ^ (i + 1) ≤ 2 ^ 63 := Nat.pow_le_pow_right (by omega) (by omega)
    rw [if_pos (by omega), wu64, w64 (by omega) (by omega)]
    rw [Nat.pow_succ] at hp
    rw [show ((2 ^ i : Nat) : Int) * 2 % 18446744073709551616 = ((2 ^ (i + 1) : Nat) : Int) by rw [Nat.pow_succ]; omega]
    rfl
theorem spec_pow (n : Nat) (hn : n ≤ 63) : Ev (fun k => spec_l03Pow.f k (n : Int)) ((2 ^ n : Nat) : Int) := by
  unfold spec_l03Pow.f; exact spec_pow_l0 n hn n 0 (by omega) (by omega)
theorem spec_pow63 : Ev (fun k => spec_l03Pow.f k 63) 9223372036854775808 := spec_pow 63 (by omega)
/-- One limb times a number, and more. -/
theorem mul_add_l0 (L : List Int) (by_ : Int) (hL : ok32 L) (hlen : L.length ≤ 100000) (hb0 : 0 ≤ by_) (hb1 : by_ < (4294967296 : Int)) :
    ∀ (d i : Nat) (out : List Int) (more : Int), L.length - i = d → i ≤ L.length → out.length = i → ok32 out → 0 ≤ more → more < (4294967296 : Int) →
    ∃ R : List Int, Ev (fun k => spec_l07MulAdd.l0 k L by_ more out (i : Int)) R ∧ ok32 R ∧ valI (4294967296 : Int) R = valI (4294967296 : Int) out + (4294967296 : Int) ^ i * (valI (4294967296 : Int) (L.drop i) * by_ + more) ∧ R.length ≤ L.length + 1 ∧ L.length ≤ R.length := by
  intro d
  induction d with
  | zero =>
    intro i out more hd hi hol ho h0 h1
    obtain rfl : i = L.length := by omega
    have e : valI (4294967296 : Int) (L.drop L.length) = 0 := by rw [List.drop_length]; rfl
    rw [e, Int.zero_mul, Int.zero_add]
    by_cases hm : more > 0
    · refine ⟨out ++ [more], Ev.step (f := fun _ => some (out ++ [more])) (fun k => ?_) (Ev.now _), ok32_snoc ho h0 h1, ?_, by simp; omega, by simp; omega⟩
      · simp only [spec_l07MulAdd.l0]
        rw [if_neg (by omega), if_pos hm, if_pos (by omega)]
      · rw [valI_snoc, hol]
    · obtain rfl : more = 0 := by omega
      refine ⟨out, Ev.step (f := fun _ => some out) (fun k => ?_) (Ev.now _), ho, by rw [Int.mul_zero, Int.add_zero], by omega, by omega⟩
      simp only [spec_l07MulAdd.l0]
      rw [if_neg (by omega), if_neg (by omega)]
  | succ d ih =>
    intro i out more hd hi hol ho h0 h1
    have hlt : i < L.length := by omega
    have hg := ok32_getD hL i
    have hm := mulB hg.1 hg.2 hb0 hb1
    have hx0 : 0 ≤ L.getD i 0 * by_ + more := by omega
    have hx1 : L.getD i 0 * by_ + more < 18446744073709551616 := by omega
    obtain ⟨R, r1, r2, r3, r4, r5⟩ := ih (i + 1) (out ++ [(L.getD i 0 * by_ + more) % (4294967296 : Int)]) ((L.getD i 0 * by_ + more) / (4294967296 : Int)) (by omega) (by omega) (by simp; omega) (ok32_snoc ho (by omega) (by omega)) (by omega) (by omega)
    refine ⟨R, Ev.step (fun k => ?_) r1, r2, ?_, r4, r5⟩
    · simp only [spec_l07MulAdd.l0]
      rw [if_pos (by omega), if_pos (by omega), if_pos (by omega), rd_nat, wu64 (L.getD i 0 * by_), Int.emod_eq_of_lt hm.1 (by omega), wu64 (L.getD i 0 * by_ + more), Int.emod_eq_of_lt hx0 hx1, tdivN hx0, tmodN hx0, wu64, Int.emod_eq_of_lt (by omega) (by omega), w64s (by omega)]
    · rw [r3, valI_snoc, hol, valI_drop (4294967296 : Int) L i hlt, Int.pow_succ]
      generalize valI (4294967296 : Int) (L.drop (i + 1)) = V
      have hd2 := Int.mul_ediv_add_emod (L.getD i 0 * by_ + more) (4294967296 : Int)
      generalize hq : (L.getD i 0 * by_ + more) / (4294967296 : Int) = q at *
      generalize hr : (L.getD i 0 * by_ + more) % (4294967296 : Int) = r at *
      generalize (4294967296 : Int) ^ i = P
      generalize L.getD i 0 = g at *
      generalize (4294967296 : Int) = B at *
      have : P * ((g + B * V) * by_ + more) = P * (B * q + r) + P * (B * V * by_) := by rw [hd2]; grind
      rw [this]; grind
theorem mul_add (L : List Int) (by_ more : Int) (hL : ok32 L) (hlen : L.length ≤ 100000) (hb0 : 0 ≤ by_) (hb1 : by_ < (4294967296 : Int)) (h0 : 0 ≤ more) (h1 : more < (4294967296 : Int)) :
    ∃ R : List Int, Ev (fun k => spec_l07MulAdd.f k L by_ more) R ∧ ok32 R ∧ valI (4294967296 : Int) R = valI (4294967296 : Int) L * by_ + more ∧ R.length ≤ L.length + 1 ∧ L.length ≤ R.length := by
  obtain ⟨R, r1, r2, r3, r4, r5⟩ := mul_add_l0 L by_ hL hlen hb0 hb1 L.length 0 [] more (by omega) (by omega) rfl ok32_nil h0 h1
  exact ⟨R, r1, r2, by rw [r3]; simp [valI], r4, r5⟩
/-- Figures as limbs. -/
theorem bin_l0 (s : ByteArray) (hs : s.size ≤ 1000) (hd : ∀ b ∈ s.data.toList, isDg b) : ∀ (d i : Nat) (L : List Int), s.size - i = d → i ≤ s.size → ok32 L → L.length ≤ i → valI (4294967296 : Int) L = ((valD (s.data.toList.take i) : Nat) : Int) →
    ∃ R : List Int, Ev (fun k => spec_l07Bin.l0 k s L (i : Int)) R ∧ ok32 R ∧ valI (4294967296 : Int) R = ((valD s.data.toList : Nat) : Int) ∧ R.length ≤ s.size := by
  intro d
  induction d with
  | zero =>
    intro i L hd2 hi hL hlen hv
    obtain rfl : i = s.size := by omega
    rw [List.take_of_length_le (by simp)] at hv
    exact ⟨L, Ev.step (f := fun _ => some L) (fun k => by simp only [spec_l07Bin.l0]; rw [if_neg (by omega)]) (Ev.now _), hL, hv, hlen⟩
  | succ d ih =>
    intro i L hd2 hi hL hlen hv
    have hlt : i < s.size := by omega
    have hb := bt_list s i hlt
    have hdg := hd _ (List.getElem_mem (l := s.data.toList) (n := i) (by simpa using hlt))
    unfold isDg at hdg
    have htk := List.take_succ_eq_append_getElem (l := s.data.toList) (i := i) (by simpa using hlt)
    generalize s.data.toList[i]'(by simpa using hlt) = b at *
    obtain ⟨R, r1, r2, r3, r4, r5⟩ := mul_add L 10 ((b.toNat : Int) - 48) hL (by omega) (by decide) (by decide) (by omega) (by omega)
    obtain ⟨R', s1, s2⟩ := ih (i + 1) R (by omega) (by omega) r2 (by omega) (by rw [r3, hv, htk, valD_snoc]; omega)
    refine ⟨R', Ev.step (fun k => ?_) (Ev.bind (f := fun k t => spec_l07Bin.l0 k s t ((i + 1 : Nat) : Int)) r1 s1), s2⟩
    simp only [spec_l07Bin.l0]
    rw [if_pos (by omega), if_pos (by omega), hb, wu64 (b.toNat : Int), Int.emod_eq_of_lt (by omega) (by omega), wu64, Int.emod_eq_of_lt (by omega) (by omega), w64s (by omega)]
theorem bin_ev (s : ByteArray) (hs : s.size ≤ 1000) (hd : ∀ b ∈ s.data.toList, isDg b) : ∃ R : List Int, Ev (fun k => spec_l07Bin.f k s) R ∧ ok32 R ∧ valI (4294967296 : Int) R = ((valD s.data.toList : Nat) : Int) ∧ R.length ≤ s.size :=
  bin_l0 s hs hd s.size 0 [] (by omega) (by omega) ok32_nil (by simp) (by simp [valI, valD])
theorem len_l0 (L : List Int) (hlen : L.length ≤ 100000) : ∀ (n : Nat), n ≤ L.length → Ev (fun k => spec_l07Len.l0 k L (n : Int)) ((tl L n : Nat) : Int) := by
  intro n
  induction n with
  | zero => intro _; exact Ev.step (f := fun _ => some 0) (fun k => by simp only [spec_l07Len.l0]; rw [if_neg (by omega)]; rfl) (Ev.now _)
  | succ n ih =>
    intro h
    have e : wrap64 (((n + 1 : Nat) : Int) - 1) = (n : Int) := by rw [w64 (by omega) (by omega)]; omega
    by_cases h0 : L.getD n 0 = 0
    · have ht : tl L (n + 1) = tl L n := if_pos h0
      rw [ht]
      refine Ev.step (fun k => ?_) (ih (by omega))
      simp only [spec_l07Len.l0]
      rw [if_pos (by omega), e, if_pos (by omega), if_pos (by omega), rd_nat, if_pos h0]
    · have ht : tl L (n + 1) = n + 1 := if_neg h0
      rw [ht]
      refine Ev.step (f := fun _ => some ((n + 1 : Nat) : Int)) (fun k => ?_) (Ev.now _)
      simp only [spec_l07Len.l0]
      rw [if_pos (by omega), e, if_pos (by omega), if_pos (by omega), rd_nat, if_neg h0]
theorem len_ev (L : List Int) (hlen : L.length ≤ 100000) : Ev (fun k => spec_l07Len.f k L) ((tlen L : Nat) : Int) := len_l0 L hlen L.length (Nat.le_refl _)
/-- Great numbers are compared from above. -/
theorem less_l0 (a b : List Int) (ha : ok32 a) (hb : ok32 b) (hla : a.length ≤ 100000) : ∀ n : Nat, n ≤ a.length → n ≤ b.length → Ev (fun k => spec_l07Less.l0 k a b ((n : Int) - 1)) (decide (valI (4294967296 : Int) (a.take n) < valI (4294967296 : Int) (b.take n))) := by
  intro n
  induction n with
  | zero =>
    intro _ _
    refine Ev.step (f := fun _ => some _) (fun k => ?_) (Ev.now _)
    simp only [spec_l07Less.l0]
    rw [if_neg (by omega)]
    simp [valI]
  | succ n ih =>
    intro h1 h2
    have e : ((n + 1 : Nat) : Int) - 1 = n := by omega
    rw [e]
    by_cases he : a.getD n 0 = b.getD n 0
    · have h' := ih (by omega) (by omega)
      have hv : decide (valI (4294967296 : Int) (a.take (n + 1)) < valI (4294967296 : Int) (b.take (n + 1))) = decide (valI (4294967296 : Int) (a.take n) < valI (4294967296 : Int) (b.take n)) := by
        rw [decide_eq_decide, valI_take_succ (4294967296 : Int) a n (by omega), valI_take_succ (4294967296 : Int) b n (by omega), he]
        omega
      rw [hv]
      refine Ev.step (fun k => ?_) h'
      simp only [spec_l07Less.l0]
      rw [if_pos (by omega), if_pos (by omega), if_pos (by omega), if_pos (by omega), rd_nat, rd_nat, if_pos he, w64 (by omega) (by omega)]
    · have hv : decide (valI (4294967296 : Int) (a.take (n + 1)) < valI (4294967296 : Int) (b.take (n + 1))) = decide (a.getD n 0 < b.getD n 0) := by
        rw [decide_eq_decide]
        rcases Int.lt_or_le (a.getD n 0) (b.getD n 0) with h | h
        · have := less_at ha hb n h1 h2 h
          exact ⟨fun _ => h, fun _ => this⟩
        · have := less_at hb ha n h2 h1 (by omega)
          exact ⟨fun hh => by omega, fun hh => by omega⟩
      rw [hv]
      refine Ev.step (f := fun _ => some (decide (a.getD n 0 < b.getD n 0))) (fun k => ?_) (Ev.now _)
      simp only [spec_l07Less.l0]
      rw [if_pos (by omega), if_pos (by omega), if_pos (by omega), if_pos (by omega), rd_nat, rd_nat, if_neg he]
theorem less_ev (a b : List Int) (ha : ok32 a) (hb : ok32 b) (hla : a.length ≤ 100000) (hlb : b.length ≤ 100000) : Ev (fun k => spec_l07Less.f k a b) (decide (valI (4294967296 : Int) a < valI (4294967296 : Int) b)) := by
  unfold spec_l07Less.f
  refine Ev.bind (len_ev a hla) (Ev.bind (len_ev b hlb) ?_)
  have h1 := tlen_le a
  have h2 := tlen_le b
  by_cases h : tlen a = tlen b
  · refine ev_if (by omega) ?_
    rw [w64 (by omega) (by omega), tlen_val a, tlen_val b, ← h]
    exact less_l0 a b ha hb hla (tlen a) h1 (by omega)
  · refine ev_else (by omega) ?_
    have e : decide (valI (4294967296 : Int) a < valI (4294967296 : Int) b) = decide (((tlen a : Nat) : Int) < ((tlen b : Nat) : Int)) := by
      rw [decide_eq_decide]
      rcases Nat.lt_or_ge (tlen a) (tlen b) with h3 | h3
      · exact ⟨fun _ => by omega, fun _ => less_len ha hb h3⟩
      · have := less_len hb ha (by omega)
        exact ⟨fun hh => by omega, fun hh => by omega⟩
    rw [e]; exact Ev.now _
/-- A great number less another one. -/
theorem sub_l0 (a b : List Int) (ha : ok32 a) (hb : ok32 b) (hla : a.length ≤ 100000) :
    ∀ (d i : Nat) (out : List Int) (w : Int), a.length - i = d → i ≤ a.length → out.length = i → ok32 out → (w = 0 ∨ w = 1) → valI (4294967296 : Int) out + valI (4294967296 : Int) (b.take i) = valI (4294967296 : Int) (a.take i) + w * (4294967296 : Int) ^ i →
    ∃ (R : List Int) (w' : Int), Ev (fun k => spec_l07Sub.l0 k a b out w (i : Int)) R ∧ ok32 R ∧ R.length = a.length ∧ (w' = 0 ∨ w' = 1) ∧ valI (4294967296 : Int) R + valI (4294967296 : Int) (b.take a.length) = valI (4294967296 : Int) a + w' * (4294967296 : Int) ^ a.length := by
  intro d
  induction d with
  | zero =>
    intro i out w hd hi hol ho hw hv
    obtain rfl : i = a.length := by omega
    rw [List.take_length] at hv
    refine ⟨out, w, Ev.step (f := fun _ => some out) (fun k => ?_) (Ev.now _), ho, hol, hw, hv⟩
    simp only [spec_l07Sub.l0]
    rw [if_neg (by omega)]
  | succ d ih =>
    intro i out w hd hi hol ho hw hv
    have hga := ok32_getD ha i
    have hgb := ok32_getD hb i
    have hw' : 0 ≤ w ∧ w ≤ 1 := by omega
    -- what is taken here
    have hvb : valI (4294967296 : Int) (b.take (i + 1)) = valI (4294967296 : Int) (b.take i) + (4294967296 : Int) ^ i * b.getD i 0 := by
      by_cases h : i < b.length
      · exact valI_take_succ (4294967296 : Int) b i h
      · rw [List.take_of_length_le (by omega), List.take_of_length_le (by omega), getD_out b i (by omega), Int.mul_zero, Int.add_zero]
    have hva := valI_take_succ (4294967296 : Int) a i (by omega)
    have hstep : ∀ (x w2 : Int), x = a.getD i 0 + w2 * (4294967296 : Int) - (w + b.getD i 0) → valI (4294967296 : Int) (out ++ [x]) + valI (4294967296 : Int) (b.take (i + 1)) = valI (4294967296 : Int) (a.take (i + 1)) + w2 * (4294967296 : Int) ^ (i + 1) := by
      intro x w2 hx
      rw [valI_snoc, hol, hvb, hva, Int.pow_succ, hx]
      generalize (4294967296 : Int) ^ i = P at *
      generalize (4294967296 : Int) = B at *
      grind
    have body : ∀ (y : Int), y = w + b.getD i 0 → (∀ k, spec_l07Sub.l0 (k + 1) a b out w (i : Int) = if a.getD i 0 < y then (if out.length < 17592186044416 then (spec_l07Sub.l0 k a b (out ++ [IntKind.u64.wrap ((IntKind.u64.wrap (a.getD i 0 + 4294967296)) - y)]) 1 (wrap64 ((i : Int) + 1))) else none) else (if out.length < 17592186044416 then (spec_l07Sub.l0 k a b (out ++ [IntKind.u64.wrap (a.getD i 0 - y)]) 0 (wrap64 ((i : Int) + 1))) else none)) →
        ∃ (R : List Int) (w' : Int), Ev (fun k => spec_l07Sub.l0 k a b out w (i : Int)) R ∧ ok32 R ∧ R.length = a.length ∧ (w' = 0 ∨ w' = 1) ∧ valI (4294967296 : Int) R + valI (4294967296 : Int) (b.take a.length) = valI (4294967296 : Int) a + w' * (4294967296 : Int) ^ a.length := by
      intro y hy hk
      by_cases hlt : a.getD i 0 < y
      · obtain ⟨R, w2, r1, r2⟩ := ih (i + 1) (out ++ [a.getD i 0 + 4294967296 - y]) 1 (by omega) (by omega) (by simp; omega) (ok32_snoc ho (by omega) (by omega)) (.inr rfl) (hstep _ 1 (by rw [hy, Int.one_mul]))
        refine ⟨R, w2, Ev.step (fun k => ?_) r1, r2⟩
        rw [hk k, if_pos hlt, if_pos (by omega), wu64 (a.getD i 0 + 4294967296), Int.emod_eq_of_lt (by omega) (by omega), wu64, Int.emod_eq_of_lt (by omega) (by omega), w64s (by omega)]
      · obtain ⟨R, w2, r1, r2⟩ := ih (i + 1) (out ++ [a.getD i 0 - y]) 0 (by omega) (by omega) (by simp; omega) (ok32_snoc ho (by omega) (by omega)) (.inl rfl) (hstep _ 0 (by rw [hy, Int.zero_mul]; omega))
        refine ⟨R, w2, Ev.step (fun k => ?_) r1, r2⟩
        rw [hk k, if_neg hlt, if_pos (by omega), wu64, Int.emod_eq_of_lt (by omega) (by omega), w64s (by omega)]
    by_cases hib : i < b.length
    · refine body (w + b.getD i 0) rfl (fun k => ?_)
      simp only [spec_l07Sub.l0]
      rw [if_pos (by omega), if_pos (by omega), if_pos (by omega), rd_nat, rd_nat, wu64 (w + b.getD i 0), Int.emod_eq_of_lt (by omega) (by omega)]
    · refine body w (by rw [getD_out b i (by omega)]; omega) (fun k => ?_)
      simp only [spec_l07Sub.l0]
      rw [if_pos (by omega), if_neg (by omega), if_pos (by omega), rd_nat]
theorem sub_ev (a b : List Int) (ha : ok32 a) (hb : ok32 b) (hla : a.length ≤ 100000) (hle : valI (4294967296 : Int) b ≤ valI (4294967296 : Int) a) :
    ∃ R : List Int, Ev (fun k => spec_l07Sub.f k a b) R ∧ ok32 R ∧ R.length = a.length ∧ valI (4294967296 : Int) R = valI (4294967296 : Int) a - valI (4294967296 : Int) b := by
  obtain ⟨R, w, r1, r2, r3, r4, r5⟩ := sub_l0 a b ha hb hla a.length 0 [] 0 (by omega) (by omega) rfl ok32_nil (.inl rfl) (by simp [valI])
  exact ⟨R, r1, r2, r3, sub_end hb r2 r3 r4 hle (val32 ha).2 r5⟩
/-- How many binary figures. -/
theorem bits_l0 (n : Int) : ∀ (c : Nat) (x k : Nat), x < 2 ^ c → k + c ≤ 60 → 0 ≤ n → n ≤ 100000 →
    ∃ j : Nat, Ev (fun r => spec_l07Bits.l0 r n (k : Int) (x : Int)) (32 * (n - 1) + ((k + j : Nat) : Int)) ∧ x < 2 ^ j ∧ (x ≠ 0 → 2 ^ j ≤ 2 * x) ∧ (x = 0 → j = 0) ∧ j ≤ c := by
  have hstop : ∀ (k : Nat), k ≤ 100 → 0 ≤ n → n ≤ 100000 → Ev (fun r => spec_l07Bits.l0 r n (k : Int) ((0 : Nat) : Int)) (32 * (n - 1) + ((k + 0 : Nat) : Int)) := by
    intro k hk h0 h1
    refine Ev.step (f := fun _ => some (32 * (n - 1) + ((k + 0 : Nat) : Int))) (fun r => ?_) (Ev.now _)
    simp only [spec_l07Bits.l0]
    rw [if_neg (by omega), w64 (x := n - 1) (by omega) (by omega), w64 (x := 32 * (n - 1)) (by omega) (by omega), w64 (by omega) (by omega)]
    rfl
  intro c
  induction c with
  | zero =>
    intro x k hx hk h0 h1
    obtain rfl : x = 0 := by simpa using hx
    exact ⟨0, hstop k (by omega) h0 h1, by omega, fun h => absurd rfl h, fun _ => rfl, Nat.le_refl _⟩
  | succ c ih =>
    intro x k hx hk h0 h1
    by_cases hx0 : x = 0
    · subst hx0
      exact ⟨0, hstop k (by omega) h0 h1, by omega, fun h => absurd rfl h, fun _ => rfl, by omega⟩
    · have hx60 : x < 2 ^ 60 := Nat.lt_of_lt_of_le hx (Nat.pow_le_pow_right (by omega) (by omega))
      rw [Nat.pow_succ] at hx
      obtain ⟨j, r1, r2, r3, r4, r5⟩ := ih (x / 2) (k + 1) (by omega) (by omega) h0 h1
      refine ⟨j + 1, ?_, ?_, ?_, fun h => absurd h hx0, by omega⟩
      · refine Ev.step (fun r => ?_) (show Ev (fun r => spec_l07Bits.l0 r n (((k + 1 : Nat)) : Int) ((x / 2 : Nat) : Int)) _ by rw [show k + (j + 1) = k + 1 + j by omega]; exact r1)
        simp only [spec_l07Bits.l0]
        have hw : wrap64 ((k : Int) + 1) = ((k + 1 : Nat) : Int) := w64s (by omega)
        rw [if_pos (by omega), tdivN (by omega), hw, wu64, show ((x : Int) / 2) % 18446744073709551616 = ((x / 2 : Nat) : Int) by omega]
      · rw [Nat.pow_succ]; omega
      · intro _
        rw [Nat.pow_succ]
        by_cases h2 : x / 2 = 0
        · rw [r4 h2]; omega
        · have := r3 h2; omega
/-- The number that limbs tell. -/
def nv (L : List Int) : Nat := (valI (4294967296 : Int) L).toNat
theorem nv_val {L : List Int} (h : ok32 L) : ((nv L : Nat) : Int) = valI (4294967296 : Int) L := by
  have := (val32 h).1
  unfold nv; omega
theorem b32_nat (n : Nat) : (4294967296 : Int) ^ n = ((2 ^ (32 * n) : Nat) : Int) := by
  rw [Nat.pow_mul, Int.natCast_pow]; rfl
theorem bits_ev (L : List Int) (hL : ok32 L) (hlen : L.length ≤ 2000) : ∃ j : Nat, Ev (fun k => spec_l07Bits.f k L) (j : Int) ∧ nv L < 2 ^ j ∧ (nv L ≠ 0 → 2 ^ j ≤ 2 * nv L) ∧ j ≤ 32 * L.length := by
  have hl := len_ev L (by omega)
  have htl := tlen_le L
  unfold spec_l07Bits.f
  cases hn : tlen L with
  | zero =>
    rw [hn] at hl
    have h0 : nv L = 0 := by unfold nv; rw [tlen_zero hn]; rfl
    exact ⟨0, Ev.bind hl (ev_if rfl (Ev.now _)), by omega, fun h => absurd h0 h, by omega⟩
  | succ n =>
    rw [hn] at hl
    have hg := ok32_getD hL n
    have h3 : L.getD n 0 ≠ 0 := by
      have h2 := tl_top L L.length (by show tlen L ≠ 0; omega)
      have : tl L L.length - 1 = n := by show tlen L - 1 = n; omega
      rwa [this] at h2
    obtain ⟨x, hx⟩ : ∃ x : Nat, L.getD n 0 = x := ⟨(L.getD n 0).toNat, by omega⟩
    have hx32 : x < 2 ^ 32 := by have := hg.2; omega
    obtain ⟨j, r1, r2, r3, r4, r5⟩ := bits_l0 ((n + 1 : Nat) : Int) 32 x 0 hx32 (by omega) (by omega) (by omega)
    have htop := top_ge hL n (by omega)
    have hv := tlen_val L
    rw [hn] at hv
    rw [← hv, ← nv_val hL, b32_nat, hx] at htop
    have t1 : x * 2 ^ (32 * n) ≤ nv L := by
      have := htop.1
      rw [← Int.natCast_mul] at this
      omega
    have t2 : nv L < (x + 1) * 2 ^ (32 * n) := by
      have := htop.2
      rw [show ((x : Int) + 1) = ((x + 1 : Nat) : Int) from rfl, ← Int.natCast_mul] at this
      omega
    refine ⟨32 * n + j, ?_, ?_, fun _ => ?_, by omega⟩
    · refine Ev.bind hl ?_
      have hwn : wrap64 (((n + 1 : Nat) : Int) - 1) = (n : Int) := by rw [w64 (by omega) (by omega)]; omega
      rw [hwn, rd_nat, hx]
      refine ev_else (by omega) (ev_if (by omega) (ev_if (by omega) ?_))
      have e : 32 * (((n + 1 : Nat) : Int) - 1) + ((0 + j : Nat) : Int) = ((32 * n + j : Nat) : Int) := by omega
      rw [e] at r1
      exact r1
    · rw [Nat.pow_add, Nat.mul_comm]
      exact Nat.lt_of_lt_of_le t2 (Nat.mul_le_mul_right _ r2)
    · have := r3 (by omega)
      have h4 := Nat.mul_le_mul_right (2 ^ (32 * n)) this
      rw [Nat.pow_add, Nat.mul_comm]
      rw [Nat.mul_assoc] at h4
      omega
/-- A great number times a power of 2. -/
theorem up_ev (L : List Int) (n : Nat) (hL : ok32 L) (hlen : L.length ≤ 2000) (hn : n ≤ 100000) : ∃ R : List Int, Ev (fun k => spec_l07Up.f k L (n : Int)) R ∧ ok32 R ∧ nv R = nv L * 2 ^ n ∧ R.length ≤ L.length + n / 32 + 1 := by
  have hp : 2 ^ (n % 32) ≤ 2 ^ 31 := Nat.pow_le_pow_right (by omega) (by omega)
  obtain ⟨R, r1, r2, r3, r4, r5⟩ := mul_add L ((2 ^ (n % 32) : Nat) : Int) 0 hL (by omega) (Int.natCast_nonneg _) (by omega) (by omega) (by decide)
  have e1 : wrap64 (Int.tdiv (n : Int) 32) = ((n / 32 : Nat) : Int) := by rw [tdivN (by omega), w64 (by omega) (by omega)]; omega
  have e2 : Int.tmod (n : Int) 32 = ((n % 32 : Nat) : Int) := by rw [tmodN (by omega)]; omega
  have hok : ok32 (List.replicate (n / 32) 0 ++ R) := by
    intro y hy
    rcases List.mem_append.1 hy with e | e
    · rw [(List.mem_replicate.1 e).2]; decide
    · exact r2 y e
  refine ⟨List.replicate (n / 32) 0 ++ R, ?_, hok, ?_, by simp; omega⟩
  · unfold spec_l07Up.f
    rw [e1, e2]
    refine ev_if (by omega) (ev_if (by rw [Int.toNat_natCast]; omega) ?_)
    simp only [Option.bind_some, Int.toNat_natCast]
    refine Ev.bind (spec_pow (n % 32) (by omega)) (Ev.bind r1 (ev_if ?_ (Ev.now _)))
    rw [List.length_replicate]; omega
  · have h1 := nv_val hok
    have h2 := nv_val hL
    rw [valI_append, valI_zeros, Int.zero_add, List.length_replicate, r3, Int.add_zero, b32_nat, ← h2, ← Int.natCast_mul, ← Int.natCast_mul] at h1
    have h3 : nv (List.replicate (n / 32) 0 ++ R) = 2 ^ (32 * (n / 32)) * (nv L * 2 ^ (n % 32)) := by omega
    rw [h3]
    have e : 2 ^ n = 2 ^ (32 * (n / 32)) * 2 ^ (n % 32) := by rw [← Nat.pow_add]; congr 1; omega
    rw [e]; ac_rfl
/-- A step of the division from above. -/
theorem quot_step {A D k n a : Nat} (h : A * 2 ^ k = n * (2 * D) + a) (ha : a < 2 * D) :
    (a < D → A * 2 ^ (k + 1) = (n * 2) * (2 * D) + a * 2 ∧ a * 2 < 2 * D) ∧ (D ≤ a → A * 2 ^ (k + 1) = (n * 2 + 1) * (2 * D) + (a - D) * 2 ∧ (a - D) * 2 < 2 * D) := by
  have e : A * 2 ^ (k + 1) = n * 2 * (2 * D) + a * 2 := by
    rw [Nat.pow_succ, ← Nat.mul_assoc, h, Nat.add_mul]; congr 1; ac_rfl
  refine ⟨fun h1 => ⟨e, by omega⟩, fun h1 => ⟨?_, by omega⟩⟩
  rw [e, Nat.add_mul, Nat.one_mul]
  generalize n * 2 * (2 * D) = X
  omega
/-- The quotient's bound on the way. -/
theorem quot_lt {A D k n a : Nat} (h : A * 2 ^ k = n * (2 * D) + a) (hA : A < D) (hk : 1 ≤ k) : n < 2 ^ (k - 1) := by
  have hD : 0 < D := by omega
  apply Nat.lt_of_mul_lt_mul_right (a := 2 * D)
  have e : 2 ^ k = 2 ^ (k - 1) * 2 := by rw [← Nat.pow_succ]; congr 1; omega
  have h1 : A * 2 ^ k < D * 2 ^ k := Nat.mul_lt_mul_of_pos_right hA (Nat.pow_pos (by omega))
  have h2 : D * 2 ^ k = 2 ^ (k - 1) * (2 * D) := by rw [e]; ac_rfl
  omega
/-- What the division ends with. -/
theorem quot_end {A B n a : Nat} (hB : 0 < B) (h : A * 2 ^ 64 = n * (2 * (B * 2 ^ 63)) + a) (ha : a < 2 * (B * 2 ^ 63)) : n = A / B ∧ (decide (a > 0) = decide (A % B ≠ 0)) := by
  have e : 2 * (B * 2 ^ 63) = B * 2 ^ 64 := by rw [show (2 : Nat) ^ 64 = 2 * 2 ^ 63 from rfl]; ac_rfl
  rw [e] at h ha
  have hd : A * 2 ^ 64 / (B * 2 ^ 64) = A / B := Nat.mul_div_mul_right A B (by decide)
  have hm : A * 2 ^ 64 % (B * 2 ^ 64) = A % B * 2 ^ 64 := Nat.mul_mod_mul_right _ _ _
  have h1 : A * 2 ^ 64 / (B * 2 ^ 64) = n := by
    rw [h, Nat.mul_comm n, Nat.mul_add_div (by omega), Nat.div_eq_of_lt ha, Nat.add_zero]
  have h2 : A * 2 ^ 64 % (B * 2 ^ 64) = a := by
    rw [h, Nat.mul_comm n, Nat.mul_add_mod, Nat.mod_eq_of_lt ha]
  refine ⟨by rw [← h1, hd], ?_⟩
  rw [decide_eq_decide, ← h2, hm]
  generalize A % B = r
  omega
/-- The exponent within its bounds. -/
def clampE (E : Int) : Int := max (-5000) (min E 5000)
open Go.Proofs.YtkjpelgdppmbjaaDoor.CR in
/-- What RoundTo tells. -/
def roundT (b : Bool) (M : Nat) (E : Int) (more : Bool) : Nat := if M = 0 then enc b 0 else nearS b M (clampE E) (more && decide (72057594037927936 ≤ M))
open Go.Proofs.YtkjpelgdppmbjaaDoor.CR in
theorem spec_sign (r : Nat) (b : Bool) (hr : r < 9223372036854775808) : Ev (fun k => spec_l03Sign.f k (r : Int) b) ((enc b r : Nat) : Int) := by
  unfold spec_l03Sign.f
  cases b
  · exact Ev.now _
  · simp only [if_true]
    refine Ev.bind spec_pow63 ?_
    rw [wu64, show ((r : Int) + 9223372036854775808) % 18446744073709551616 = ((enc true r : Nat) : Int) by unfold enc; rw [if_pos rfl]; omega]
    exact Ev.now _
open Go.Proofs.YtkjpelgdppmbjaaDoor.CR in
theorem spec_pack_j9 (b : Bool) (last : Int) (m : Nat) (h0 : -1074 ≤ last) (h1 : last ≤ 10000) (hm : m < 9007199254740992) (hn : last ≠ -1074 → 4503599627370496 ≤ m) :
    Ev (fun k => spec_RoundTo.j9 k b (m : Int) last) ((packN b last m : Nat) : Int) := by
  have hj : ∀ (k : Nat) (x1 x2 : Int), spec_RoundTo.j9 (k + 1) b x1 x2 = if x1 < 4503599627370496 then ((spec_l03Sign.f k x1 b).bind fun t104 => (some t104)) else (if x2 > 971 then ((spec_l03Sign.f k 9218868437227405312 b).bind fun t105 => (some t105)) else ((spec_l03Sign.f k (IntKind.u64.wrap ((IntKind.u64.wrap (x1 - 4503599627370496)) + (IntKind.u64.wrap ((IntKind.u64.wrap (wrap64 (x2 + 1075))) * 4503599627370496)))) b).bind fun t106 => (some t106))) := fun _ _ _ => rfl
  by_cases h3 : m < 4503599627370496
  · have hl : last = -1074 := by
      rcases Int.lt_or_eq_of_le h0 with h | h
      · have := hn (by omega); omega
      · exact h.symm
    subst hl
    have e : packN b (-1074) m = enc b m := by
      unfold packN
      rw [Nat.min_eq_left (by omega), show (-1074 + 1074 : Int).toNat * 4503599627370496 + m = m by omega]
    rw [e]
    exact Ev.step (fun k => by rw [hj, if_pos (by omega)]) (Ev.bind (spec_sign m b (by omega)) (Ev.now _))
  · by_cases h2 : last > 971
    · have e : packN b last m = enc b 9218868437227405312 := by
        unfold packN
        rw [Nat.min_eq_right (by omega)]
      rw [e]
      have hs : Ev (fun k => spec_l03Sign.f k 9218868437227405312 b) ((enc b 9218868437227405312 : Nat) : Int) := spec_sign 9218868437227405312 b (by omega)
      exact Ev.step (fun k => by rw [hj, if_neg (by omega), if_pos h2]) (Ev.bind hs (Ev.now _))
    · have e : packN b last m = enc b (m - 4503599627370496 + (last + 1075).toNat * 4503599627370496) := by
        unfold packN
        rw [Nat.min_eq_left (by omega)]
        exact congrArg (enc b) (by omega)
      rw [e]
      refine Ev.step (fun k => ?_) (Ev.bind (spec_sign (m - 4503599627370496 + (last + 1075).toNat * 4503599627370496) b (by omega)) (Ev.now _))
      rw [hj, if_neg (by omega), if_neg h2, w64 (x := last + 1075) (by omega) (by omega), wu64, wu64, wu64, wu64,
        show (((m : Int) - 4503599627370496) % 18446744073709551616 + (last + 1075) % 18446744073709551616 * 4503599627370496 % 18446744073709551616) % 18446744073709551616 = ((m - 4503599627370496 + (last + 1075).toNat * 4503599627370496 : Nat) : Int) by omega]
open Go.Proofs.YtkjpelgdppmbjaaDoor.CR in
theorem spec_pack_j8 (b : Bool) (last : Int) (m : Nat) (h0 : -1074 ≤ last) (h1 : last ≤ 9000) (hm : m ≤ 9007199254740992) (hn : last ≠ -1074 → 4503599627370496 ≤ m) :
    Ev (fun k => spec_RoundTo.j8 k b (m : Int) last) ((packN b last m : Nat) : Int) := by
  have hj : ∀ (k : Nat) (x1 x2 : Int), spec_RoundTo.j8 (k + 1) b x1 x2 = if x1 = 9007199254740992 then (spec_RoundTo.j9 k b 4503599627370496 (wrap64 (x2 + 1))) else (spec_RoundTo.j9 k b x1 x2) := fun _ _ _ => rfl
  by_cases h2 : m = 9007199254740992
  · subst h2
    have e : packN b last 9007199254740992 = packN b (last + 1) 4503599627370496 := by
      unfold packN
      rw [show (last + 1074).toNat * 4503599627370496 + 9007199254740992 = (last + 1 + 1074).toNat * 4503599627370496 + 4503599627370496 by omega]
    rw [e]
    refine Ev.step (fun k => ?_) (spec_pack_j9 b (last + 1) 4503599627370496 (by omega) (by omega) (by omega) (fun _ => by omega))
    rw [hj, if_pos (by omega), w64 (by omega) (by omega)]
    rfl
  · exact Ev.step (fun k => by rw [hj, if_neg (by omega)]) (spec_pack_j9 b last m h0 (by omega) (by omega) hn)
open Go.Proofs.YtkjpelgdppmbjaaDoor.CR in
theorem spec_pack_j7 (b : Bool) (last : Int) (m : Nat) (z : Bool) (h0 : -1074 ≤ last) (h1 : last ≤ 9000) (hm : m + z.toNat ≤ 9007199254740992) (hn : last ≠ -1074 → 4503599627370496 ≤ m) :
    Ev (fun k => spec_RoundTo.j7 k b (m : Int) last z) ((packN b last (m + z.toNat) : Nat) : Int) := by
  have hj : ∀ (k : Nat) (x1 x2 : Int) (z : Bool), spec_RoundTo.j7 (k + 1) b x1 x2 z = if z = true then (spec_RoundTo.j8 k b (IntKind.u64.wrap (x1 + 1)) x2) else (spec_RoundTo.j8 k b x1 x2) := fun _ _ _ _ => rfl
  cases z
  · exact Ev.step (fun k => by rw [hj, if_neg (by simp)]) (spec_pack_j8 b last m h0 h1 (by simpa using hm) hn)
  · refine Ev.step (fun k => ?_) (spec_pack_j8 b last (m + 1) h0 h1 (by simpa using hm) (fun h => by have := hn h; omega))
    have hm' : m + 1 ≤ 9007199254740992 := by simpa using hm
    rw [hj, if_pos rfl, wu64, show ((m : Int) + 1) % 18446744073709551616 = ((m + 1 : Nat) : Int) by omega]
/-- The half and the rest of a number, so many bits of which are left out. -/
def halfB (M j : Nat) : Bool := decide (1 ≤ j ∧ M / 2 ^ (j - 1) % 2 = 1)
def restB (st : Bool) (M j : Nat) : Bool := st || decide (1 ≤ j ∧ M % 2 ^ (j - 1) ≠ 0)
open Go.Proofs.YtkjpelgdppmbjaaDoor.CR in
/-- The half and the rest round as they should. -/
theorem round_bits (st : Bool) (M d : Nat) (hst : st = true → 1 ≤ d) : M / 2 ^ d + (halfB M d && (restB st M d || (M / 2 ^ d % 2 == 1))).toNat = if st then rneS M d else rne M d := by
  cases d with
  | zero =>
    have e : halfB M 0 = false := by unfold halfB; exact decide_eq_false (by omega)
    rw [e]
    cases st
    · rw [rne_zero]; simp
    · have := hst rfl; omega
  | succ c =>
    have e2 : (2 : Nat) ^ (c + 1) = 2 * 2 ^ c := by rw [Nat.pow_succ]; omega
    have hmod : M % 2 ^ (c + 1) = M % 2 ^ c + 2 ^ c * (M / 2 ^ c % 2) := Nat.mod_pow_succ
    have hlt : M % 2 ^ c < 2 ^ c := Nat.mod_lt _ (Nat.pow_pos (by omega))
    unfold rneS rne halfB restB
    rw [show c + 1 - 1 = c by omega, hmod, e2]
    generalize M / (2 * 2 ^ c) = q
    have hb : M / 2 ^ c % 2 = 0 ∨ M / 2 ^ c % 2 = 1 := by omega
    generalize M / 2 ^ c % 2 = h at *
    generalize M % 2 ^ c = r at *
    generalize 2 ^ c = p at *
    rcases hb with rfl | rfl
    · rw [Nat.mul_zero, Nat.add_zero]
      have e : decide (1 ≤ c + 1 ∧ 0 = 1) = false := decide_eq_false (by omega)
      rw [e]
      cases st
      · rw [if_neg (by simp), if_neg (by omega)]; rfl
      · rw [if_pos rfl, if_neg (by omega)]; rfl
    · rw [Nat.mul_one]
      have e : decide (1 ≤ c + 1 ∧ 1 = 1) = true := decide_eq_true (by omega)
      rw [e, Bool.true_and]
      cases st
      · rw [if_neg (by simp)]
        by_cases h0 : r = 0
        · subst h0
          have e3 : decide (1 ≤ c + 1 ∧ 0 ≠ 0) = false := decide_eq_false (by omega)
          rw [e3, Bool.false_or, Bool.false_or]
          by_cases h1 : q % 2 = 1
          · rw [if_pos (.inr (by omega)), show (q % 2 == 1) = true by simpa using h1]; rfl
          · rw [if_neg (by omega), show (q % 2 == 1) = false by simpa using h1]; rfl
        · have e3 : decide (1 ≤ c + 1 ∧ r ≠ 0) = true := decide_eq_true (by omega)
          rw [e3, if_pos (.inl (by omega))]; rfl
      · rw [if_pos rfl, if_pos (by omega)]; rfl
theorem half_next (M j : Nat) : halfB M (j + 1) = (M / 2 ^ j % 2 == 1) := by
  unfold halfB
  rw [show j + 1 - 1 = j by omega]
  by_cases h : M / 2 ^ j % 2 = 1
  · rw [decide_eq_true (by omega)]; exact (beq_iff_eq.mpr h).symm
  · rw [decide_eq_false (by omega)]; exact (beq_eq_false_iff_ne.mpr h).symm
theorem rest_next (st : Bool) (M j : Nat) : restB st M (j + 1) = (restB st M j || halfB M j) := by
  unfold restB halfB
  rw [show j + 1 - 1 = j by omega]
  cases st
  · simp only [Bool.false_or]
    cases j with
    | zero => simp [Nat.mod_one]
    | succ c =>
      rw [show c + 1 - 1 = c by omega, Nat.mod_pow_succ]
      have hp : 0 < 2 ^ c := Nat.pow_pos (by omega)
      generalize M % 2 ^ c = r
      have hb : M / 2 ^ c % 2 = 0 ∨ M / 2 ^ c % 2 = 1 := by omega
      generalize M / 2 ^ c % 2 = h at *
      generalize 2 ^ c = p at *
      rcases hb with rfl | rfl
      · rw [Nat.mul_zero, Nat.add_zero]; simp
      · rw [Nat.mul_one]; simp; omega
  · simp
theorem spec_l1_done (k : Nat) (b : Bool) (m : Int) (e : Int) (h r : Bool) (h1 : ¬ m ≥ 9007199254740992) (h2 : -1074 ≤ e) : spec_RoundTo.l1 (k + 2) b m e h r = spec_RoundTo.j7 k b m e (h && (r || (Int.tmod m 2 == 1))) := by
  have hj6 : ∀ (k : Nat), spec_RoundTo.j6 (k + 1) b m e h r false = (if h = true then (if r = true then (spec_RoundTo.j7 k b m e true) else (spec_RoundTo.j7 k b m e ((Int.tmod m 2) == 1))) else (spec_RoundTo.j7 k b m e false)) := fun _ => rfl
  have hl : ∀ (k : Nat), spec_RoundTo.l1 (k + 1) b m e h r = if m ≥ 9007199254740992 then (spec_RoundTo.j6 k b m e h r true) else (spec_RoundTo.j6 k b m e h r (decide (e < (-1074)))) := fun _ => rfl
  rw [hl, if_neg h1, decide_eq_false (by omega), hj6]
  cases h <;> cases r <;> rfl
theorem spec_l1_next (k : Nat) (b : Bool) (m : Nat) (e : Int) (h r : Bool) (hm : m < 18446744073709551616) (he : -30000 ≤ e ∧ e ≤ 30000) (hc : m ≥ 9007199254740992 ∨ e < -1074) :
    spec_RoundTo.l1 (k + 2) b (m : Int) e h r = if m / 2 = 0 ∧ e + 1 < -1074 then spec_RoundTo.l1 k b 0 (-1074) false ((r || h) || (m % 2 == 1)) else spec_RoundTo.l1 k b ((m / 2 : Nat) : Int) (e + 1) (m % 2 == 1) (r || h) := by
  have hj6 : ∀ (k : Nat), spec_RoundTo.j6 (k + 1) b (m : Int) e h r true = if r = true then (if (IntKind.u64.wrap (Int.tdiv (m : Int) 2)) = 0 then (if (wrap64 (e + 1)) < (-1074) then (spec_RoundTo.l1 k b (IntKind.u64.wrap (Int.tdiv (m : Int) 2)) (-1074) false true) else (spec_RoundTo.l1 k b (IntKind.u64.wrap (Int.tdiv (m : Int) 2)) (wrap64 (e + 1)) ((Int.tmod (m : Int) 2) == 1) true)) else (spec_RoundTo.l1 k b (IntKind.u64.wrap (Int.tdiv (m : Int) 2)) (wrap64 (e + 1)) ((Int.tmod (m : Int) 2) == 1) true)) else (if (IntKind.u64.wrap (Int.tdiv (m : Int) 2)) = 0 then (if (wrap64 (e + 1)) < (-1074) then (if h = true then (spec_RoundTo.l1 k b (IntKind.u64.wrap (Int.tdiv (m : Int) 2)) (-1074) false true) else (spec_RoundTo.l1 k b (IntKind.u64.wrap (Int.tdiv (m : Int) 2)) (-1074) false ((Int.tmod (m : Int) 2) == 1))) else (spec_RoundTo.l1 k b (IntKind.u64.wrap (Int.tdiv (m : Int) 2)) (wrap64 (e + 1)) ((Int.tmod (m : Int) 2) == 1) h)) else (spec_RoundTo.l1 k b (IntKind.u64.wrap (Int.tdiv (m : Int) 2)) (wrap64 (e + 1)) ((Int.tmod (m : Int) 2) == 1) h)) := fun _ => rfl
  have hl : ∀ (k : Nat), spec_RoundTo.l1 (k + 1) b (m : Int) e h r = if (m : Int) ≥ 9007199254740992 then (spec_RoundTo.j6 k b (m : Int) e h r true) else (spec_RoundTo.j6 k b (m : Int) e h r (decide (e < (-1074)))) := fun _ => rfl
  have e0 : spec_RoundTo.l1 (k + 2) b (m : Int) e h r = spec_RoundTo.j6 (k + 1) b (m : Int) e h r true := by
    rw [hl]
    by_cases h1 : (m : Int) ≥ 9007199254740992
    · rw [if_pos h1]
    · rw [if_neg h1, decide_eq_true (by omega)]
  have e1 : IntKind.u64.wrap (Int.tdiv (m : Int) 2) = ((m / 2 : Nat) : Int) := by rw [wu64, tdivN (Int.natCast_nonneg m)]; omega
  have e2 : ((Int.tmod (m : Int) 2) == 1) = (m % 2 == 1) := by
    rw [tmodN (Int.natCast_nonneg m), Bool.eq_iff_iff]; simp; omega
  have e3 : wrap64 (e + 1) = e + 1 := w64 (by omega) (by omega)
  rw [e0, hj6, e1, e2, e3]
  clear hj6 hl e0 e1 e2 e3
  by_cases h0 : m / 2 = 0
  · have h0' : ((m / 2 : Nat) : Int) = 0 := by omega
    rw [h0']
    by_cases h1 : e + 1 < -1074
    · simp only [if_pos h1, if_pos (show m / 2 = 0 ∧ e + 1 < -1074 from ⟨h0, h1⟩)]
      cases r <;> cases h <;> rfl
    · simp only [if_neg h1, if_neg (show ¬ (m / 2 = 0 ∧ e + 1 < -1074) from fun hh => h1 hh.2)]
      cases r <;> cases h <;> rfl
  · have h0' : ¬ ((m / 2 : Nat) : Int) = 0 := by omega
    simp only [if_neg h0', if_neg (show ¬ (m / 2 = 0 ∧ e + 1 < -1074) from fun hh => h0 hh.1)]
    cases r <;> cases h <;> rfl
open Go.Proofs.YtkjpelgdppmbjaaDoor.CR in
theorem spec_l1_run (b st : Bool) (M : Nat) (E : Int) (D : Nat) (_h0 : M ≠ 0) (hM : M < 18446744073709551616) (hE : -5000 ≤ E ∧ E ≤ 5000) (hst : st = true → 1 ≤ D) (hD0 : -1074 ≤ E + D) (hD1 : M < 2 ^ (53 + D)) (hD2 : D < 10000) (hD3 : E + D ≤ 9000) (hstep : ∀ j, j < D → 2 ^ (53 + j) ≤ M ∨ E + j < -1074)
    (hn : E + D ≠ -1074 → 4503599627370496 ≤ M / 2 ^ D) :
    ∀ (d j : Nat), D - j = d → j ≤ D → Ev (fun k => spec_RoundTo.l1 k b ((M / 2 ^ j : Nat) : Int) (E + j) (halfB M j) (restB st M j)) ((packN b (E + D) (if st then rneS M D else rne M D) : Nat) : Int) := by
  intro d
  induction d with
  | zero =>
    intro j hd hj
    obtain rfl : j = D := by omega
    have hq : M / 2 ^ j < 9007199254740992 := Nat.div_lt_of_lt_mul (by rw [show (9007199254740992 : Nat) = 2 ^ 53 from rfl, ← Nat.pow_add, Nat.add_comm]; exact hD1)
    have hb := round_bits st M j hst
    rw [← hb]
    refine Ev.step (f := fun k => spec_RoundTo.l1 (k + 1) b ((M / 2 ^ j : Nat) : Int) (E + j) (halfB M j) (restB st M j)) (fun _ => rfl) ?_
    have ht : (Int.tmod ((M / 2 ^ j : Nat) : Int) 2 == 1) = (M / 2 ^ j % 2 == 1) := by
      rw [tmodN (Int.natCast_nonneg _), Bool.eq_iff_iff]
      generalize M / 2 ^ j = q
      simp; omega
    generalize hz : (halfB M j && (restB st M j || (M / 2 ^ j % 2 == 1))) = z
    have hz1 : z.toNat ≤ 1 := by cases z <;> decide
    refine Ev.step (fun k => ?_) (spec_pack_j7 b (E + j) (M / 2 ^ j) z hD0 hD3 (by omega) hn)
    rw [spec_l1_done k b _ _ _ _ (by omega) hD0, ht, hz]
  | succ d ih =>
    intro j hd hj
    have hc := hstep j (by omega)
    have hle : M / 2 ^ j ≤ M := Nat.div_le_self _ _
    have hdiv : M / 2 ^ j / 2 = M / 2 ^ (j + 1) := by rw [Nat.div_div_eq_div_mul, ← Nat.pow_succ]
    have hcond : M / 2 ^ j ≥ 9007199254740992 ∨ E + (j : Int) < -1074 := by
      rcases hc with h | h
      · left
        exact (Nat.le_div_iff_mul_le (Nat.pow_pos (by omega))).2 (by rw [show (9007199254740992 : Nat) = 2 ^ 53 from rfl, ← Nat.pow_add]; exact h)
      · right; exact h
    have hnx : ∀ k, spec_RoundTo.l1 (k + 2) b ((M / 2 ^ j : Nat) : Int) (E + j) (halfB M j) (restB st M j) = if M / 2 ^ j / 2 = 0 ∧ E + j + 1 < -1074 then spec_RoundTo.l1 k b 0 (-1074) false ((restB st M j || halfB M j) || (M / 2 ^ j % 2 == 1)) else spec_RoundTo.l1 k b ((M / 2 ^ j / 2 : Nat) : Int) (E + j + 1) (M / 2 ^ j % 2 == 1) (restB st M j || halfB M j) :=
      fun k => spec_l1_next k b (M / 2 ^ j) (E + j) _ _ (by omega) (by omega) hcond
    refine Ev.step (f := fun k => spec_RoundTo.l1 (k + 1) b ((M / 2 ^ j : Nat) : Int) (E + j) (halfB M j) (restB st M j)) (fun _ => rfl) ?_
    by_cases hz : M / 2 ^ j / 2 = 0 ∧ E + j + 1 < -1074
    · -- nothing is left of it
      have hz1 := hz.1
      rw [hdiv] at hz1
      have hlt : M < 2 ^ (j + 1) := by
        rcases Nat.lt_or_ge M (2 ^ (j + 1)) with h | h
        · exact h
        · have := Nat.div_pos h (Nat.pow_pos (n := j + 1) (show 0 < 2 by omega)); omega
      have hDj : j + 2 ≤ D := by omega
      have hp : 2 ^ (j + 2) ≤ 2 ^ D := Nat.pow_le_pow_right (by omega) hDj
      have hp2 : (2 : Nat) ^ (j + 2) = 2 * 2 ^ (j + 1) := by rw [Nat.pow_succ 2 (j + 1)]; omega
      have hS : rneS M D = 0 := by
        unfold rneS
        generalize 2 ^ D = q at *
        generalize 2 ^ (j + 2) = u at *
        generalize 2 ^ (j + 1) = v at *
        rw [Nat.div_eq_of_lt (show M < q by omega), Nat.mod_eq_of_lt (show M < q by omega), if_neg (by omega)]
      have hR : rne M D = 0 := by
        unfold rne
        generalize 2 ^ D = q at *
        generalize 2 ^ (j + 2) = u at *
        generalize 2 ^ (j + 1) = v at *
        rw [Nat.div_eq_of_lt (show M < q by omega), Nat.mod_eq_of_lt (show M < q by omega), if_neg (by omega)]
      have hz2 : (if st then rneS M D else rne M D) = 0 := by rw [hS, hR]; cases st <;> rfl
      rw [hz2]
      have hq0 : M / 2 ^ D = 0 := Nat.div_eq_of_lt (by
        generalize 2 ^ D = q at *
        generalize 2 ^ (j + 2) = u at *
        generalize 2 ^ (j + 1) = v at *
        omega)
      have hED : E + D = -1074 := by
        rcases Classical.em (E + D = -1074) with h | h
        · exact h
        · have := hn h; omega
      rw [hED]
      refine Ev.step (f := fun k => spec_RoundTo.l1 k b 0 (-1074) false ((restB st M j || halfB M j) || (M / 2 ^ j % 2 == 1))) (fun k => by rw [hnx k, if_pos hz]) ?_
      refine Ev.step (f := fun k => spec_RoundTo.l1 (k + 1) b 0 (-1074) false ((restB st M j || halfB M j) || (M / 2 ^ j % 2 == 1))) (fun _ => rfl) ?_
      exact Ev.step (fun k => by rw [spec_l1_done k b 0 (-1074) false _ (by omega) (by omega), Bool.false_and]; rfl) (spec_pack_j7 b (-1074) 0 false (by omega) (by omega) (by decide) (fun h => absurd rfl h))
    · have h' := ih (j + 1) (by omega) (by omega)
      rw [half_next, rest_next, ← hdiv] at h'
      refine Ev.step (fun k => ?_) h'
      rw [hnx k, if_neg hz]
      rw [show E + (j : Int) + 1 = E + ((j + 1 : Nat) : Int) by omega]
open Go.Proofs.YtkjpelgdppmbjaaDoor.CR in
theorem spec_l0_run (b st : Bool) (M : Nat) (E : Int) (h0 : M ≠ 0) (hM : M < 18446744073709551616) (hE : -5000 ≤ E ∧ E ≤ 5000) (r : Int) :
    ∀ (d i : Nat), (E - lastP M E).toNat - i = d → i ≤ (E - lastP M E).toNat →
    Ev (fun k => spec_RoundTo.l1 k b ((M * 2 ^ (E - lastP M E).toNat : Nat) : Int) (E - (E - lastP M E).toNat) false st) r →
    Ev (fun k => spec_RoundTo.l0 k b ((M * 2 ^ i : Nat) : Int) (E - i) st) r := by
  have hl : ∀ (k : Nat) (x1 x2 : Int), spec_RoundTo.l0 (k + 1) b x1 x2 st = if x1 < 4503599627370496 then (if x2 > (-1074) then (spec_RoundTo.l0 k b (IntKind.u64.wrap (x1 * 2)) (wrap64 (x2 - 1)) st) else (spec_RoundTo.j4 k b x1 x2 st)) else (spec_RoundTo.j4 k b x1 x2 st) := fun _ _ _ => rfl
  have hj4 : ∀ (k : Nat) (x1 x2 : Int), spec_RoundTo.j4 (k + 1) b x1 x2 st = spec_RoundTo.l1 k b x1 x2 false st := fun _ _ _ => rfl
  have hlog := log_le h0
  have hlog2 := lt_log M
  have hlogM : M.log2 < 64 := log_mono hM h0
  intro d
  induction d with
  | zero =>
    intro i hd hi h
    obtain rfl : i = (E - lastP M E).toNat := by omega
    refine Ev.step (f := fun k => spec_RoundTo.j4 k b ((M * 2 ^ (E - lastP M E).toNat : Nat) : Int) (E - (E - lastP M E).toNat) st) (fun k => ?_) (Ev.step (fun k => by rw [hj4]) h)
    rw [hl]
    by_cases h1 : ((M * 2 ^ (E - lastP M E).toNat : Nat) : Int) < 4503599627370496
    · rw [if_pos h1]
      have : ¬ (E - ((E - lastP M E).toNat : Int) > -1074) := by
        intro h2
        have h3 : M * 2 ^ (E - lastP M E).toNat < 2 ^ 52 := by
          have : (2 : Nat) ^ 52 = 4503599627370496 := rfl
          omega
        have h4 : 2 ^ (M.log2 + (E - lastP M E).toNat) ≤ M * 2 ^ (E - lastP M E).toNat := by
          rw [Nat.pow_add]; exact Nat.mul_le_mul_right _ hlog
        have h5 : M.log2 + (E - lastP M E).toNat < 52 := by
          rcases Nat.lt_or_ge (M.log2 + (E - lastP M E).toNat) 52 with h | h
          · exact h
          · have := Nat.pow_le_pow_right (n := 2) (by omega) h
            omega
        clear h1 h3 h4
        unfold lastP at *
        omega
      rw [if_neg this]
    · rw [if_neg h1]
  | succ d ih =>
    intro i hd hi h
    have h' := ih (i + 1) (by omega) (by omega) h
    refine Ev.step (fun k => ?_) h'
    have hlt : M * 2 ^ i < 4503599627370496 := by
      have h3 : M * 2 ^ i < 2 ^ (M.log2 + 1) * 2 ^ i := Nat.mul_lt_mul_of_pos_right hlog2 (Nat.pow_pos (by omega))
      rw [← Nat.pow_add] at h3
      exact Nat.lt_of_lt_of_le h3 (Nat.pow_le_pow_right (n := 2) (by omega) (show M.log2 + 1 + i ≤ 52 by unfold lastP at *; omega))
    have hgt : E - (i : Int) > -1074 := by unfold lastP at *; omega
    have e1 : M * 2 ^ (i + 1) = M * 2 ^ i * 2 := by rw [Nat.pow_succ, Nat.mul_assoc]
    rw [e1]
    generalize M * 2 ^ i = p at *
    rw [hl, if_pos (by omega), if_pos hgt, wu64, w64 (by omega) (by omega), show ((p : Nat) : Int) * 2 % 18446744073709551616 = ((p * 2 : Nat) : Int) by omega, show E - (i : Int) - 1 = E - ((i + 1 : Nat) : Int) by omega]
open Go.Proofs.YtkjpelgdppmbjaaDoor.CR in
theorem spec_round_l0 (b st : Bool) (M : Nat) (E : Int) (h0 : M ≠ 0) (hM : M < 18446744073709551616) (hE : -5000 ≤ E ∧ E ≤ 5000) (hst : st = true → 72057594037927936 ≤ M) :
    Ev (fun k => spec_RoundTo.l0 k b (M : Int) E st) ((nearS b M E st : Nat) : Int) := by
  have hlog := log_le h0
  have hlog2 := lt_log M
  have hlogM : M.log2 < 64 := log_mono hM h0
  have h := spec_l0_run b st M E h0 hM hE ((nearS b M E st : Nat) : Int) (E - lastP M E).toNat 0 (by omega) (by omega)
  rw [Nat.pow_zero, Nat.mul_one, show E - ((0 : Nat) : Int) = E by omega] at h
  refine h ?_
  have hlp : -1074 ≤ lastP M E ∧ lastP M E ≤ 8000 := by unfold lastP; omega
  have hlp2 : E + M.log2 - 52 ≤ lastP M E := by unfold lastP; omega
  have hlp3 : lastP M E = -1074 ∨ lastP M E = E + M.log2 - 52 := by unfold lastP; omega
  have hkr := kept_range M E h0
  by_cases hd : lastP M E > E
  · -- down
    have hres : nearS b M E st = packN b (E + ((lastP M E - E).toNat : Int)) (if st then rneS M (lastP M E - E).toNat else rne M (lastP M E - E).toNat) := by
      rw [show E + ((lastP M E - E).toNat : Int) = lastP M E by omega]
      cases st
      · unfold nearS
        rw [if_neg (by simp), if_neg (by simp), near_down b M E h0 (by omega)]
      · rw [near_st b M E (hst rfl), if_pos rfl]
    rw [hres, show (E - lastP M E).toNat = 0 by omega, Nat.pow_zero, Nat.mul_one, show E - ((0 : Nat) : Int) = E by omega]
    have hrun := spec_l1_run b st M E (lastP M E - E).toNat h0 hM hE (fun _ => by omega) (by omega)
      (Nat.lt_of_lt_of_le hlog2 (Nat.pow_le_pow_right (by omega) (by omega))) (by omega) (by omega)
      (fun j hj => by
        rcases Classical.em (E + j < -1074) with h | h
        · exact .inr h
        · left; exact Nat.le_trans (Nat.pow_le_pow_right (by omega) (by omega)) hlog)
      (fun hne => by
        have hx : lastP M E ≠ -1074 := by omega
        refine (Nat.le_div_iff_mul_le (Nat.pow_pos (by omega))).2 ?_
        rw [show (4503599627370496 : Nat) = 2 ^ 52 from rfl, ← Nat.pow_add]
        exact Nat.le_trans (Nat.pow_le_pow_right (by omega) (by omega)) hlog)
      (lastP M E - E).toNat 0 (by omega) (by omega)
    rw [Nat.pow_zero, Nat.div_one, show E + ((0 : Nat) : Int) = E by omega] at hrun
    have e1 : halfB M 0 = false := by unfold halfB; exact decide_eq_false (by omega)
    have e2 : restB st M 0 = st := by unfold restB; rw [decide_eq_false (by omega), Bool.or_false]
    rw [e1, e2] at hrun
    exact hrun
  · -- up
    have hst2 : st = false := by
      cases st
      · rfl
      · have := lastP_big M E (hst rfl); omega
    subst hst2
    have hres : nearS b M E false = packN b (lastP M E) (M * 2 ^ (E - lastP M E).toNat) := by
      unfold nearS
      rw [if_neg (by simp), near_up b M E h0 (by omega)]
    rw [show (lastP M E - E).toNat = 0 by omega, rne_zero] at hkr
    rw [hres, show E - (((E - lastP M E).toNat : Nat) : Int) = lastP M E by omega]
    generalize hm : M * 2 ^ (E - lastP M E).toNat = m at *
    rcases Nat.lt_or_ge m 9007199254740992 with hmlt | hmge
    · refine Ev.step (f := fun k => spec_RoundTo.l1 (k + 1) b (m : Int) (lastP M E) false false) (fun _ => rfl) ?_
      have hp := spec_pack_j7 b (lastP M E) m false hlp.1 (by omega) (by show m + 0 ≤ _; omega) hkr.2
      exact Ev.step (fun k => by rw [spec_l1_done k b (m : Int) (lastP M E) false false (by omega) hlp.1, Bool.false_and]) hp
    · exfalso
      have h3 : M * 2 ^ (E - lastP M E).toNat < 2 ^ (M.log2 + 1) * 2 ^ (E - lastP M E).toNat := Nat.mul_lt_mul_of_pos_right hlog2 (Nat.pow_pos (by omega))
      rw [← Nat.pow_add] at h3
      have h4 := Nat.pow_le_pow_right (n := 2) (by omega) (show M.log2 + 1 + (E - lastP M E).toNat ≤ 53 by omega)
      have h5 : (2 : Nat) ^ 53 = 9007199254740992 := rfl
      omega
open Go.Proofs.YtkjpelgdppmbjaaDoor.CR in
theorem spec_round (b : Bool) (M : Nat) (hM : M < 18446744073709551616) (E : Int) (more : Bool) :
    Ev (fun k => spec_RoundTo.f k b (M : Int) E more) ((roundT b M E more : Nat) : Int) := by
  have hj0 : ∀ (k : Nat) (x2 : Int), spec_RoundTo.j0 (k + 1) b (M : Int) x2 more = if x2 < (-5000) then (spec_RoundTo.j1 k b (M : Int) (-5000) more) else (spec_RoundTo.j1 k b (M : Int) x2 more) := fun _ _ => rfl
  have hj1 : ∀ (k : Nat) (x2 : Int), spec_RoundTo.j1 (k + 1) b (M : Int) x2 more = if more = true then ((spec_l03Pow.f k 56).bind fun t102 => (spec_RoundTo.j2 k b (M : Int) x2 (decide ((M : Int) ≥ t102)))) else (spec_RoundTo.j2 k b (M : Int) x2 false) := fun _ _ => rfl
  have hj2 : ∀ (k : Nat) (x2 : Int) (z : Bool), spec_RoundTo.j2 (k + 1) b (M : Int) x2 z = if (M : Int) = 0 then ((spec_l03Sign.f k 0 b).bind fun t103 => (some t103)) else (spec_RoundTo.l0 k b (M : Int) x2 z) := fun _ _ _ => rfl
  have hcr : -5000 ≤ clampE E ∧ clampE E ≤ 5000 := by unfold clampE; omega
  have k2 : ∀ z : Bool, z = (more && decide (72057594037927936 ≤ M)) → Ev (fun k => spec_RoundTo.j2 k b (M : Int) (clampE E) z) ((roundT b M E more : Nat) : Int) := by
    intro z hz
    unfold roundT
    by_cases h0 : M = 0
    · rw [if_pos h0]
      have hs : Ev (fun k => spec_l03Sign.f k 0 b) ((enc b 0 : Nat) : Int) := spec_sign 0 b (by omega)
      exact Ev.step (fun k => by rw [hj2, if_pos (by omega)]) (Ev.bind hs (Ev.now _))
    · rw [if_neg h0, ← hz]
      exact Ev.step (fun k => by rw [hj2, if_neg (by omega)]) (spec_round_l0 b z M (clampE E) h0 hM hcr (fun hh => by rw [hz] at hh; simp at hh; exact hh.2))
  have k1 : Ev (fun k => spec_RoundTo.j1 k b (M : Int) (clampE E) more) ((roundT b M E more : Nat) : Int) := by
    cases hm : more
    · rw [hm] at k2 hj1
      exact Ev.step (fun k => by rw [hj1, if_neg (by simp)]) (k2 false (by simp))
    · rw [hm] at k2 hj1
      have hp : Ev (fun k => spec_l03Pow.f k 56) ((2 ^ 56 : Nat) : Int) := spec_pow 56 (by omega)
      refine Ev.step (f := fun k => (spec_l03Pow.f k 56).bind fun t102 => spec_RoundTo.j2 k b (M : Int) (clampE E) (decide ((M : Int) ≥ t102))) (fun k => by rw [hj1, if_pos rfl]) (Ev.bind hp ?_)
      refine k2 _ ?_
      rw [Bool.true_and, decide_eq_decide]
      have : ((2 ^ 56 : Nat) : Int) = 72057594037927936 := rfl
      rw [this]; omega
  unfold spec_RoundTo.f
  by_cases h1 : E > 5000
  · simp only [if_pos h1]
    have : clampE E = 5000 := by unfold clampE; omega
    rw [this] at k1
    exact Ev.step (fun k => by rw [hj0, if_neg (by omega)]) k1
  · simp only [if_neg h1]
    by_cases h2 : E < -5000
    · have : clampE E = -5000 := by unfold clampE; omega
      rw [this] at k1
      exact Ev.step (fun k => by rw [hj0, if_pos h2]) k1
    · have : clampE E = E := by unfold clampE; omega
      rw [this] at k1
      exact Ev.step (fun k => by rw [hj0, if_neg h2]) k1
open Go.Proofs.YtkjpelgdppmbjaaDoor.CR in
theorem round_near (b : Bool) (M : Nat) (E : Int) (st : Bool) (h0 : M ≠ 0) (h1 : -5000 ≤ E) (h2 : E ≤ 5000) (hst : st = true → 72057594037927936 ≤ M) : roundT b M E st = nearS b M E st := by
  unfold roundT
  rw [if_neg h0, show clampE E = E by unfold clampE; omega]
  congr 1
  cases hs : st
  · rfl
  · rw [decide_eq_true (hst hs)]; rfl
/-- The division from above. -/
theorem quot_l0 (A B : Nat) (up : Int) (hup1 : -4000 ≤ up) (hup2 : up ≤ 4000) (D : List Int) (hD : ok32 D) (hDl : D.length ≤ 50000) (hDv : nv D = B * 2 ^ 63) (hB : 0 < B) (hA : A < B * 2 ^ 63) :
    ∀ (d k n : Nat) (L : List Int), 64 - k = d → k ≤ 64 → ok32 L → L.length ≤ 3000 + k → A * 2 ^ k = n * (2 * (B * 2 ^ 63)) + nv L → nv L < 2 * (B * 2 ^ 63) →
    Ev (fun r => spec_l07Quotient.l0 r L up (n : Int) D (63 - (k : Int))) ((roundT false (A / B) (-up) (decide (A % B ≠ 0)) : Nat) : Int) := by
  have hl0 : ∀ (r : Nat) (L : List Int) (n i : Int), spec_l07Quotient.l0 (r + 1) L up n D i = if i ≥ 0 then ((spec_l07Less.f r L D).bind fun t174 => (if t174 = true then ((spec_l07MulAdd.f r L 2 0).bind fun t175 => (spec_l07Quotient.l0 r t175 up (IntKind.u64.wrap (n * 2)) D (wrap64 (i - 1)))) else ((spec_l07Sub.f r L D).bind fun t178 => ((spec_l07MulAdd.f r t178 2 0).bind fun t181 => (spec_l07Quotient.l0 r t181 up (IntKind.u64.wrap ((IntKind.u64.wrap (n * 2)) + 1)) D (wrap64 (i - 1))))))) else ((spec_l07Len.f r L).bind fun t172 => ((spec_RoundTo.f r false n (wrap64 (-up)) (decide (t172 > 0))).bind fun t173 => (some t173))) := fun _ _ _ _ => rfl
  intro d
  induction d with
  | zero =>
    intro k n L hd hk hL hLl hq hlt
    obtain rfl : k = 64 := by omega
    obtain ⟨q1, q2⟩ := quot_end hB hq hlt
    have hn : n < 18446744073709551616 := by
      have := quot_lt hq hA (by omega)
      exact Nat.lt_trans this (by decide)
    have ht := len_ev L (by omega)
    have hdec : decide (((tlen L : Nat) : Int) > 0) = decide (A % B ≠ 0) := by
      rw [← q2, decide_eq_decide]
      constructor
      · intro h
        have := tlen_ge hL (tlen L - 1) (by omega)
        have h2 := b32_pos (tlen L - 1)
        have h3 := nv_val hL
        omega
      · intro h
        rcases Nat.eq_zero_or_pos (tlen L) with h0 | h0
        · have := tlen_zero h0
          have h3 := nv_val hL
          omega
        · omega
    refine Ev.step (fun r => hl0 r L n _) (ev_else (by omega) (Ev.bind ht ?_))
    rw [hdec, w64 (by omega) (by omega), ← q1]
    exact Ev.bind (spec_round false n hn (-up) _) (Ev.now _)
  | succ d ih =>
    intro k n L hd hk hL hLl hq hlt
    obtain ⟨s1, s2⟩ := quot_step hq hlt
    have hle := less_ev L D hL hD (by omega) (by omega)
    have hi : wrap64 ((63 - (k : Int)) - 1) = 63 - ((k + 1 : Nat) : Int) := by rw [w64 (by omega) (by omega)]; omega
    have hl := nv_val hL
    have hd2 := nv_val hD
    have hpos : 63 - (k : Int) ≥ 0 := by omega
    by_cases hc : nv L < B * 2 ^ 63
    · obtain ⟨t1, t2⟩ := s1 hc
      obtain ⟨R, r1, r2, r3, r4, r5⟩ := mul_add L 2 0 hL (by omega) (by decide) (by decide) (by decide) (by decide)
      have hR : nv R = nv L * 2 := by
        have := nv_val r2
        omega
      have hbound := quot_lt t1 hA (by omega)
      have hn : n * 2 < 18446744073709551616 := Nat.lt_of_lt_of_le hbound (by
        have := Nat.pow_le_pow_right (n := 2) (by omega) (show k + 1 - 1 ≤ 64 by omega)
        exact Nat.le_trans this (by decide))
      have h' := ih (k + 1) (n * 2) R (by omega) (by omega) r2 (by omega) (by rw [hR]; exact t1) (by rw [hR]; exact t2)
      rw [decide_eq_true (by omega)] at hle
      refine Ev.step (fun r => hl0 r L n _) (ev_if hpos (Ev.bind hle (ev_if rfl (Ev.bind r1 ?_))))
      rw [hi, wu64, show ((n : Int) * 2) % 18446744073709551616 = ((n * 2 : Nat) : Int) by omega]
      exact h'
    · obtain ⟨t1, t2⟩ := s2 (by omega)
      obtain ⟨S, u1, u2, u3, u4⟩ := sub_ev L D hL hD (by omega) (by omega)
      obtain ⟨R, r1, r2, r3, r4, r5⟩ := mul_add S 2 0 u2 (by omega) (by decide) (by decide) (by decide) (by decide)
      have hR : nv R = (nv L - B * 2 ^ 63) * 2 := by
        have := nv_val r2
        omega
      have hbound := quot_lt t1 hA (by omega)
      have hn : n * 2 + 1 < 18446744073709551616 := Nat.lt_of_lt_of_le hbound (by
        have := Nat.pow_le_pow_right (n := 2) (by omega) (show k + 1 - 1 ≤ 64 by omega)
        exact Nat.le_trans this (by decide))
      have h' := ih (k + 1) (n * 2 + 1) R (by omega) (by omega) r2 (by omega) (by rw [hR]; exact t1) (by rw [hR]; exact t2)
      rw [decide_eq_false (by omega)] at hle
      refine Ev.step (fun r => hl0 r L n _) (ev_if hpos (Ev.bind hle (ev_else (by decide) (Ev.bind u1 (Ev.bind r1 ?_)))))
      rw [hi, wu64 ((n : Int) * 2), show ((n : Int) * 2) % 18446744073709551616 = ((n * 2 : Nat) : Int) by omega, wu64, show (((n * 2 : Nat) : Int) + 1) % 18446744073709551616 = ((n * 2 + 1 : Nat) : Int) by omega]
      exact h'
open Go.Proofs.YtkjpelgdppmbjaaDoor.CQ in
theorem quot_near {A B : Nat} {up : Int} (hup1 : -4000 ≤ up) (hup2 : up ≤ 4000) (hB : 0 < B) (hA : B * 2 ^ 61 ≤ A) : NearE A B (-up) (roundT false (A / B) (-up) (decide (A % B ≠ 0))) := by
  have hq : 2 ^ 61 ≤ A / B := (Nat.le_div_iff_mul_le hB).2 (by rw [Nat.mul_comm]; exact hA)
  have h56 : 72057594037927936 ≤ A / B := Nat.le_trans (by decide) hq
  rw [round_near false (A / B) (-up) _ (by omega) (by omega) (by omega) (fun _ => h56)]
  exact nearS_nearE hB rfl h56
@[irreducible] def T2400 : Nat := 2 ^ 2400
theorem two_up (m k : Nat) (h : m ≤ k) : 2 ^ m ≤ 2 ^ k := Nat.pow_le_pow_right (by omega) h
theorem T2400_ge (k : Nat) (h : k ≤ 2400) : 2 ^ k ≤ T2400 := by unfold T2400; exact two_up k 2400 h
theorem T2400_le (k : Nat) (h : 2400 ≤ k) : T2400 ≤ 2 ^ k := by unfold T2400; exact two_up 2400 k h
theorem T2400_lt {j x : Nat} (h : 2 ^ j ≤ 2 * x) (hx : x < T2400) : j < 2401 := by
  rcases Nat.lt_or_ge j 2401 with h1 | h1
  · exact h1
  · exfalso
    have h2 := T2400_le (j - 1) (by omega)
    have e : 2 ^ j = 2 ^ (j - 1) * 2 := by rw [← Nat.pow_succ]; congr 1; omega
    omega
open Go.Proofs.YtkjpelgdppmbjaaDoor.CQ in
theorem quot_ev (a b : List Int) (ha : ok32 a) (hb : ok32 b) (hla : a.length ≤ 1000) (hlb : b.length ≤ 1000) (ha0 : nv a ≠ 0) (hb0 : nv b ≠ 0) (hav : nv a < T2400) (hbv : nv b < T2400) : ∃ w : Nat, Ev (fun k => spec_l07Quotient.f k a b) (w : Int) ∧ NearE (nv a) (nv b) 0 w := by
  obtain ⟨ja, p1, p2, p3, p4⟩ := bits_ev a ha (by omega)
  obtain ⟨jb, q1, q2, q3, q4⟩ := bits_ev b hb (by omega)
  have p3 := p3 ha0
  have q3 := q3 hb0
  have hja := T2400_lt p3 hav
  have hjb := T2400_lt q3 hbv
  clear hav hbv
  have hw1 : wrap64 ((jb : Int) + 62) = (jb : Int) + 62 := w64 (by omega) (by omega)
  have hw : wrap64 ((jb : Int) + 62 - (ja : Int)) = (jb : Int) + 62 - ja := w64 (by omega) (by omega)
  have hj0 : ∀ (x y : List Int) (u : Int) (r : Nat), spec_l07Quotient.j0 (r + 1) x y u = (spec_l07Up.f r y 63).bind fun t169 => (spec_l07Quotient.l0 r x u 0 t169 63) := fun _ _ _ _ => rfl
  by_cases hup : (jb : Int) + 62 - ja > 0
  · obtain ⟨m, hm⟩ : ∃ m : Nat, (jb : Int) + 62 - ja = m := ⟨((jb : Int) + 62 - ja).toNat, by omega⟩
    obtain ⟨R, r1, r2, r3, r4⟩ := up_ev a m ha (by omega) (by omega)
    obtain ⟨D, d1, d2, d3, d4⟩ := up_ev b 63 hb (by omega) (by omega)
    have e1 : 2 ^ ja * 2 ^ m = 2 ^ jb * 2 ^ 62 := by rw [← Nat.pow_add, ← Nat.pow_add]; congr 1; omega
    have hA1 : nv R < nv b * 2 ^ 63 := by
      rw [r3]
      have h1 : nv a * 2 ^ m < 2 ^ ja * 2 ^ m := Nat.mul_lt_mul_of_pos_right p2 (Nat.pow_pos (by omega))
      have h2 : 2 ^ jb * 2 ^ 62 ≤ 2 * nv b * 2 ^ 62 := Nat.mul_le_mul_right _ q3
      have h3 : 2 * nv b * 2 ^ 62 = nv b * 2 ^ 63 := by rw [show (2 : Nat) ^ 63 = 2 * 2 ^ 62 from rfl]; ac_rfl
      omega
    have hA2 : nv b * 2 ^ 61 ≤ nv R := by
      rw [r3]
      have h1 : 2 ^ ja * 2 ^ m ≤ 2 * nv a * 2 ^ m := Nat.mul_le_mul_right _ p3
      have h2 : nv b * 2 ^ 62 ≤ 2 ^ jb * 2 ^ 62 := Nat.mul_le_mul_right _ (Nat.le_of_lt q2)
      have h3 : nv b * 2 ^ 62 = 2 * (nv b * 2 ^ 61) := by rw [show (2 : Nat) ^ 62 = 2 * 2 ^ 61 from rfl]; ac_rfl
      have h4 : 2 * nv a * 2 ^ m = 2 * (nv a * 2 ^ m) := by rw [Nat.mul_assoc]
      rw [h3, ← e1] at h2
      rw [h4] at h1
      exact Nat.le_of_mul_le_mul_left (Nat.le_trans h2 h1) (by omega)
    have hmain := quot_l0 (nv R) (nv b) m (by omega) (by omega) D d2 (by omega) d3 (by omega) hA1 64 0 0 R (by omega) (by omega) r2 (by omega) (by rw [Nat.pow_zero, Nat.mul_one, Nat.zero_mul, Nat.zero_add]) (by omega)
    refine ⟨_, ?_, (nearE_same (A := nv R) (B := nv b) (C := nv a) (D := nv b) (E := -(m : Int)) (F := 0) (by omega) (by omega) m 0 (by omega) (by rw [r3, Nat.pow_zero, Nat.mul_one])).1 (quot_near (up := m) (by omega) (by omega) (by omega) hA2)⟩
    unfold spec_l07Quotient.f
    refine Ev.bind q1 (Ev.bind p1 ?_)
    rw [hw1, hw, hm]
    refine ev_if (by omega) (Ev.bind r1 (Ev.step (hj0 R b m) (Ev.bind d1 hmain)))
  · obtain ⟨m, hm⟩ : ∃ m : Nat, (jb : Int) + 62 - ja = -(m : Int) := ⟨(-((jb : Int) + 62 - ja)).toNat, by omega⟩
    obtain ⟨R, r1, r2, r3, r4⟩ := up_ev b m hb (by omega) (by omega)
    obtain ⟨D, d1, d2, d3, d4⟩ := up_ev R 63 r2 (by omega) (by omega)
    have e1 : 2 ^ ja = 2 ^ jb * 2 ^ 62 * 2 ^ m := by rw [← Nat.pow_add, ← Nat.pow_add]; congr 1; omega
    have hR0 : 0 < nv R := by rw [r3]; exact Nat.mul_pos (by omega) (Nat.pow_pos (by omega))
    have hA1 : nv a < nv R * 2 ^ 63 := by
      rw [r3]
      have h2 : 2 ^ jb * 2 ^ 62 * 2 ^ m ≤ 2 * nv b * 2 ^ 62 * 2 ^ m := Nat.mul_le_mul_right _ (Nat.mul_le_mul_right _ q3)
      have h3 : 2 * nv b * 2 ^ 62 * 2 ^ m = nv b * 2 ^ m * 2 ^ 63 := by rw [show (2 : Nat) ^ 63 = 2 * 2 ^ 62 from rfl]; ac_rfl
      omega
    have hA2 : nv R * 2 ^ 61 ≤ nv a := by
      rw [r3]
      have h2 : nv b * 2 ^ 62 * 2 ^ m ≤ 2 ^ jb * 2 ^ 62 * 2 ^ m := Nat.mul_le_mul_right _ (Nat.mul_le_mul_right _ (Nat.le_of_lt q2))
      have h3 : nv b * 2 ^ 62 * 2 ^ m = 2 * (nv b * 2 ^ m * 2 ^ 61) := by rw [show (2 : Nat) ^ 62 = 2 * 2 ^ 61 from rfl]; ac_rfl
      omega
    have hmain := quot_l0 (nv a) (nv R) (-(m : Int)) (by omega) (by omega) D d2 (by omega) d3 hR0 hA1 64 0 0 a (by omega) (by omega) ha (by omega) (by rw [Nat.pow_zero, Nat.mul_one, Nat.zero_mul, Nat.zero_add]) (by omega)
    have hnear := quot_near (A := nv a) (B := nv R) (up := -(m : Int)) (by omega) (by omega) hR0 hA2
    refine ⟨_, ?_, (nearE_same (A := nv a) (B := nv R) (C := nv a) (D := nv b) (E := - -(m : Int)) (F := 0) hR0 (by omega) 0 m (by omega) (by rw [r3, Nat.pow_zero, Nat.mul_one]; ac_rfl)).1 hnear⟩
    unfold spec_l07Quotient.f
    refine Ev.bind q1 (Ev.bind p1 ?_)
    rw [hw1, hw, hm]
    refine ev_else (by omega) ?_
    have hneg : wrap64 (-(-(m : Int))) = (m : Int) := by rw [Int.neg_neg, w64 (by omega) (by omega)]
    rw [hneg]
    exact Ev.bind r1 (Ev.step (hj0 a R (-(m : Int))) (Ev.bind d1 hmain))
theorem spec_in (a b c : Int) : spec_l01In.f a b c = some (decide (b ≤ a ∧ a ≤ c)) := by
  unfold spec_l01In.f
  by_cases h : a ≥ b
  · rw [if_pos h]; simp; omega
  · rw [if_neg h]; simp; omega
theorem spec_fig_l0 (s : ByteArray) (hs : s.size ≤ 140737488351232) : ∀ (d i : Nat), s.size - i = d → Ev (fun k => spec_FiguresOk.l0 k s i) (digB s i) := by
  intro d
  induction d with
  | zero =>
    intro i hd
    rw [digB_end s i (by omega)]
    exact Ev.step (f := fun _ => some true) (fun k => by simp only [spec_FiguresOk.l0]; rw [if_neg (by omega)]) (Ev.now _)
  | succ d ih =>
    intro i hd
    by_cases h1 : bt s i < 48
    · rw [digB_no s i (by omega) (.inl h1)]
      exact Ev.step (f := fun _ => some false) (fun k => by simp only [spec_FiguresOk.l0]; rw [if_pos (by omega), if_pos (by omega), if_pos h1]) (Ev.now _)
    · by_cases h2 : bt s i > 57
      · rw [digB_no s i (by omega) (.inr h2)]
        exact Ev.step (f := fun _ => some false) (fun k => by simp only [spec_FiguresOk.l0]; rw [if_pos (by omega), if_pos (by omega), if_neg h1, if_pos h2]) (Ev.now _)
      · rw [digB_yes s i (by omega)]
        exact Ev.step (fun k => by simp only [spec_FiguresOk.l0]; rw [if_pos (by omega), if_pos (by omega), if_neg h1, if_neg h2, w64 (by omega) (by omega)]; rfl) (ih (i + 1) (by omega))
theorem spec_fig (s : ByteArray) (hs : s.size ≤ 140737488351232) : Ev (fun k => spec_FiguresOk.f k s) (figOk s) := by
  have h0 := spec_fig_l0 s hs s.size 0 (by omega)
  unfold spec_FiguresOk.f
  rw [spec_in]
  simp only [Option.bind_some]
  by_cases h1 : 1 ≤ s.size ∧ s.size ≤ 800
  · have e1 : decide ((1 : Int) ≤ (s.size : Int) ∧ (s.size : Int) ≤ 800) = true := decide_eq_true (by omega)
    simp only [e1, if_true]
    by_cases h2 : (s.size : Int) > 1
    · simp only [if_pos h2, if_pos (show (0 : Int) < (s.size : Int) by omega)]
      by_cases h3 : bt s 0 = 48
      · have e : figOk s = false := by unfold figOk; simp [h3]; omega
        rw [e]
        exact Ev.step (f := fun _ => some false) (fun k => by simp [spec_FiguresOk.j0, h3]) (Ev.now _)
      · have e : figOk s = digB s 0 := by unfold figOk; simp [h3, h1]
        rw [e]
        exact Ev.step (fun k => by simp only [spec_FiguresOk.j0]; rw [if_neg (by simpa using h3)]; rfl) h0
    · simp only [if_neg h2]
      have e : figOk s = digB s 0 := by
        unfold figOk
        have : decide (1 < s.size) = false := decide_eq_false (by omega)
        simp [h1, this]
      rw [e]
      exact Ev.step (fun k => by simp only [spec_FiguresOk.j0]; rw [if_neg (by simp)]; rfl) h0
  · have e1 : decide ((1 : Int) ≤ (s.size : Int) ∧ (s.size : Int) ≤ 800) = false := decide_eq_false (by omega)
    have e : figOk s = false := by unfold figOk; rw [decide_eq_false h1]; rfl
    simp only [e1, e]
    exact Ev.step (f := fun _ => some false) (fun k => by simp [spec_FiguresOk.j0]) (Ev.now _)
/-- Whether a text begins with a nought. -/
theorem zero_l0 (s : ByteArray) (hs : s.size ≤ 1000) : ∀ (d i : Nat), s.size - i = d → i ≤ s.size → Ev (fun k => spec_l07Zero.l0 k s (i : Int)) (decide (∀ j : Nat, j < s.size → i ≤ j → bt s (j : Int) = 48)) := by
  intro d
  induction d with
  | zero =>
    intro i hd hi
    rw [decide_eq_true (fun j h1 h2 => by omega)]
    exact Ev.step (f := fun _ => some true) (fun k => by simp only [spec_l07Zero.l0]; rw [if_neg (by omega)]) (Ev.now _)
  | succ d ih =>
    intro i hd hi
    by_cases h : bt s (i : Int) = 48
    · have e : decide (∀ j : Nat, j < s.size → i ≤ j → bt s (j : Int) = 48) = decide (∀ j : Nat, j < s.size → i + 1 ≤ j → bt s (j : Int) = 48) := by
        rw [decide_eq_decide]
        constructor
        · exact fun H j h2 h1 => H j h2 (by omega)
        · intro H j h2 h1
          rcases Nat.eq_or_lt_of_le h1 with rfl | h3
          · exact h
          · exact H j h2 h3
      rw [e]
      refine Ev.step (fun k => ?_) (ih (i + 1) (by omega) (by omega))
      simp only [spec_l07Zero.l0]
      rw [if_pos (by omega), if_pos (by omega), if_pos h, w64s (by omega)]
    · rw [decide_eq_false (fun H => h (H i (by omega) (Nat.le_refl _)))]
      refine Ev.step (f := fun _ => some false) (fun k => ?_) (Ev.now _)
      simp only [spec_l07Zero.l0]
      rw [if_pos (by omega), if_pos (by omega), if_neg h]
theorem zero_ev (s : ByteArray) (h : figOk s = true) : Ev (fun k => spec_l07Zero.f k s) (decide (bt s 0 = 48)) := by
  obtain ⟨h1, h2, h3, h4⟩ := figOk_parts s h
  have e : decide (bt s 0 = 48) = decide (∀ j : Nat, j < s.size → 0 ≤ j → bt s (j : Int) = 48) := by
    rw [decide_eq_decide]
    constructor
    · intro h5 j hj _
      have : ¬ 1 < s.size := fun h6 => h4 ⟨h5, h6⟩
      obtain rfl : j = 0 := by omega
      exact h5
    · exact fun H => H 0 (by omega) (Nat.le_refl _)
  rw [e]
  exact zero_l0 s (by omega) s.size 0 rfl (by omega)
/-- A number times a power of ten. -/
theorem near_l1 (E : Int) (hE1 : -500 ≤ E) (hE2 : E ≤ 500) (a : List Int) (r : Int) : ∀ (d i : Nat) (b : List Int), (-E).toNat - i = d → i ≤ (-E).toNat → ok32 b → b.length ≤ 1 + i →
    (∀ b', ok32 b' → b'.length ≤ 501 → nv b' = nv b * 10 ^ ((-E).toNat - i) → Ev (fun k => spec_l07Quotient.f k a b') r) → Ev (fun k => spec_Nearest.l1 k E a b (i : Int)) r := by
  have hw : wrap64 (-E) = -E := w64 (by omega) (by omega)
  have hl1 : ∀ (k : Nat) (b : List Int) (i : Int), spec_Nearest.l1 (k + 1) E a b i = if i < wrap64 (-E) then ((spec_l07MulAdd.f k b 10 0).bind fun t196 => (spec_Nearest.l1 k E a t196 (wrap64 (i + 1)))) else ((spec_l07Quotient.f k a b).bind fun t199 => (some t199)) := fun _ _ _ => rfl
  intro d
  induction d with
  | zero =>
    intro i b hd hi hb hbl hc
    have h1 := hc b hb (by omega) (by rw [show (-E).toNat - i = 0 by omega, Nat.pow_zero, Nat.mul_one])
    exact Ev.step (fun k => hl1 k b _) (ev_else (by rw [hw]; omega) (Ev.bind h1 (Ev.now _)))
  | succ d ih =>
    intro i b hd hi hb hbl hc
    have hlt : (i : Int) < -E := by omega
    obtain ⟨R, r1, r2, r3, r4, r5⟩ := mul_add b 10 0 hb (by omega) (by decide) (by decide) (by decide) (by decide)
    have hR : nv R = nv b * 10 := by
      have h1 := nv_val r2
      have h2 := nv_val hb
      omega
    have h' := ih (i + 1) R (by omega) (by omega) r2 (by omega) (fun b' q1 q2 q3 => hc b' q1 q2 (by
      rw [q3, hR, show (-E).toNat - i = ((-E).toNat - (i + 1)) + 1 by omega, Nat.pow_succ]; ac_rfl))
    have hi2 : wrap64 ((i : Int) + 1) = ((i + 1 : Nat) : Int) := w64s (by omega)
    exact Ev.step (fun k => hl1 k b _) (ev_if (by rw [hw]; exact hlt) (Ev.bind r1 (by rw [hi2]; exact h')))
theorem near_l0 (E : Int) (hE1 : -500 ≤ E) (hE2 : E ≤ 500) (b : List Int) (r : Int) : ∀ (d i : Nat) (a : List Int), E.toNat - i = d → i ≤ E.toNat → ok32 a → a.length ≤ 60 + i →
    (∀ a', ok32 a' → a'.length ≤ 560 → nv a' = nv a * 10 ^ (E.toNat - i) → Ev (fun k => spec_Nearest.l1 k E a' b 0) r) → Ev (fun k => spec_Nearest.l0 k E a b (i : Int)) r := by
  have hl0 : ∀ (k : Nat) (a : List Int) (i : Int), spec_Nearest.l0 (k + 1) E a b i = if i < E then ((spec_l07MulAdd.f k a 10 0).bind fun t193 => (spec_Nearest.l0 k E t193 b (wrap64 (i + 1)))) else (spec_Nearest.l1 k E a b 0) := fun _ _ _ => rfl
  intro d
  induction d with
  | zero =>
    intro i a hd hi ha hal hc
    have h1 := hc a ha (by omega) (by rw [show E.toNat - i = 0 by omega, Nat.pow_zero, Nat.mul_one])
    exact Ev.step (fun k => hl0 k a _) (ev_else (by omega) h1)
  | succ d ih =>
    intro i a hd hi ha hal hc
    have hlt : (i : Int) < E := by omega
    obtain ⟨R, r1, r2, r3, r4, r5⟩ := mul_add a 10 0 ha (by omega) (by decide) (by decide) (by decide) (by decide)
    have hR : nv R = nv a * 10 := by
      have h1 := nv_val r2
      have h2 := nv_val ha
      omega
    have h' := ih (i + 1) R (by omega) (by omega) r2 (by omega) (fun b' q1 q2 q3 => hc b' q1 q2 (by
      rw [q3, hR, show E.toNat - i = (E.toNat - (i + 1)) + 1 by omega, Nat.pow_succ]; ac_rfl))
    have hi2 : wrap64 ((i : Int) + 1) = ((i + 1 : Nat) : Int) := w64s (by omega)
    exact Ev.step (fun k => hl0 k a _) (ev_if hlt (Ev.bind r1 (by rw [hi2]; exact h')))
open Go.Proofs.YtkjpelgdppmbjaaDoor.CQ in
theorem nearE_any {A B : Nat} {E : Int} (hB : 0 < B) : ∃ w, NearE A B E w := nearU_any (Nat.mul_pos hB (pow_pos _))
theorem ten_two (k : Nat) : 10 ^ k ≤ 2 ^ (4 * k) := by
  rw [Nat.pow_mul]; exact Nat.pow_le_pow_left (by decide) k
/-- What Nearest is asked for. -/
def nearOk (s : ByteArray) (E : Int) : Bool := figOk s && decide (s.size ≤ 60) && decide (-500 ≤ E ∧ E ≤ 500) && !decide (bt s 0 = 48)
open Go.Proofs.YtkjpelgdppmbjaaDoor.CQ in
/-- What the reference's Nearest tells: the number that is nearest. -/
theorem spec_near (s : ByteArray) (hs : s.size ≤ 140737488351232) (E : Int) : ∃ w : Nat, Ev (fun k => spec_Nearest.f k s E) (w : Int) ∧ (nearOk s E = false → w = 0) ∧ (nearOk s E = true → NearE (valD s.data.toList * 10 ^ E.toNat) (10 ^ (-E).toNat) 0 w) := by
  have hj : ∀ k b, spec_Nearest.j0 (k + 1) s E b = if b = true then some 0 else ((spec_l07Bin.f k s).bind fun t187 => spec_Nearest.l0 k E t187 [1] 0) := fun _ _ => rfl
  have hbad : Ev (fun k => spec_Nearest.j0 k s E true) ((0 : Nat) : Int) := Ev.step (f := fun _ => some ((0 : Nat) : Int)) (fun k => by rw [hj, if_pos rfl]; rfl) (Ev.now _)
  have hf := spec_fig s hs
  unfold spec_Nearest.f
  cases h1 : figOk s with
  | false =>
    rw [h1] at hf
    exact ⟨0, Ev.bind hf (ev_else (by decide) hbad), fun _ => rfl, fun h => by unfold nearOk at h; rw [h1] at h; simp at h⟩
  | true =>
    rw [h1] at hf
    by_cases h2 : s.size ≤ 60
    · by_cases h3 : -500 ≤ E ∧ E ≤ 500
      · have hz := zero_ev s h1
        by_cases h4 : bt s 0 = 48
        · rw [decide_eq_true h4] at hz
          refine ⟨0, Ev.bind hf (ev_if rfl (ev_else (by omega) (Ev.bind (ev_const (spec_in E (-500) 500)) (ev_if (decide_eq_true h3) (Ev.bind hz hbad))))), fun _ => rfl, fun h => ?_⟩
          unfold nearOk at h; rw [decide_eq_true h4] at h; simp at h
        · rw [decide_eq_false h4] at hz
          obtain ⟨k1, k2, k3, k4⟩ := figOk_parts s h1
          obtain ⟨A, a1, a2, a3, a4⟩ := bin_ev s (by omega) k3
          have hAv : nv A = valD s.data.toList := by have := nv_val a2; omega
          have hlt := valD_lt _ k3
          rw [size_data] at hlt
          have hpos : 0 < valD s.data.toList := by
            have h5 := figOk_dec s h1
            rcases Nat.eq_zero_or_pos (valD s.data.toList) with h6 | h6
            · exfalso; rw [h6] at h5; rw [← h5] at h4; exact h4 rfl
            · exact h6
          have h60 : valD s.data.toList < 2 ^ 240 := Nat.lt_of_lt_of_le hlt (Nat.le_trans (ten_two _) (Nat.pow_le_pow_right (by omega) (by omega)))
          have hp1 := ten_two E.toNat
          have hp2 := ten_two (-E).toNat
          have hone : ok32 [1] := by intro x hx; rw [List.mem_singleton.1 hx]; decide
          have hnv1 : nv [1] = 1 := by unfold nv valI valI; rfl
          -- the word, told ahead
          have key : ∀ A' B', ok32 A' → ok32 B' → A'.length ≤ 560 → B'.length ≤ 501 → nv A' = nv A * 10 ^ E.toNat → nv B' = 1 * 10 ^ (-E).toNat → ∃ w : Nat, Ev (fun k => spec_l07Quotient.f k A' B') (w : Int) ∧ NearE (valD s.data.toList * 10 ^ E.toNat) (10 ^ (-E).toNat) 0 w := by
            intro A' B' o1 o2 l1 l2 v1 v2
            rw [hAv] at v1
            rw [Nat.one_mul] at v2
            have q := quot_ev A' B' o1 o2 (by omega) (by omega) (by rw [v1]; exact Nat.ne_of_gt (Nat.mul_pos hpos (Nat.pow_pos (by omega)))) (by rw [v2]; exact Nat.ne_of_gt (Nat.pow_pos (by omega)))
              (by
                rw [v1]
                refine Nat.lt_of_lt_of_le (Nat.mul_lt_mul_of_lt_of_le h60 hp1 (Nat.pow_pos (by omega))) ?_
                rw [← Nat.pow_add]; exact T2400_ge _ (by omega))
              (by rw [v2]; exact Nat.lt_of_le_of_lt hp2 (Nat.lt_of_lt_of_le (Nat.pow_lt_pow_right (show 1 < 2 by omega) (show 4 * (-E).toNat < 4 * (-E).toNat + 1 by omega)) (T2400_ge _ (by omega))))
            rw [v1, v2] at q
            exact q
          obtain ⟨w, hw⟩ := nearE_any (A := valD s.data.toList * 10 ^ E.toNat) (B := 10 ^ (-E).toNat) (E := 0) (Nat.pow_pos (by omega))
          have hmain : Ev (fun k => spec_Nearest.j0 k s E false) (w : Int) := by
            refine Ev.step (fun k => by rw [hj, if_neg (by decide)]) (Ev.bind a1 ?_)
            refine near_l0 E h3.1 h3.2 [1] w E.toNat 0 A (by omega) (by omega) a2 (by omega) (fun A' o1 l1 v1 => ?_)
            refine near_l1 E h3.1 h3.2 A' w (-E).toNat 0 [1] (by omega) (by omega) hone (by simp) (fun B' o2 l2 v2 => ?_)
            obtain ⟨w', e1, e2⟩ := key A' B' o1 o2 l1 l2 (by rw [v1, Nat.sub_zero]) (by rw [v2, hnv1, Nat.sub_zero])
            rw [nearE_one hw e2]
            exact e1
          refine ⟨w, Ev.bind hf (ev_if rfl (ev_else (by omega) (Ev.bind (ev_const (spec_in E (-500) 500)) (ev_if (decide_eq_true h3) (Ev.bind hz hmain))))), fun h => ?_, fun _ => hw⟩
          unfold nearOk at h; rw [h1, decide_eq_true h2, decide_eq_true h3, decide_eq_false h4] at h; simp at h
      · refine ⟨0, Ev.bind hf (ev_if rfl (ev_else (by omega) (Ev.bind (ev_const (spec_in E (-500) 500)) (ev_else (by rw [decide_eq_false h3]; decide) hbad)))), fun _ => rfl, fun h => ?_⟩
        unfold nearOk at h; rw [decide_eq_false h3] at h; simp at h
    · refine ⟨0, Ev.bind hf (ev_if rfl (ev_if (by omega) hbad)), fun _ => rfl, fun h => ?_⟩
      unfold nearOk at h; rw [decide_eq_false h2] at h; simp at h
theorem impl_in (a b c : Int) : impl_within.f a b c = some (decide (b ≤ a ∧ a ≤ c)) := by
  unfold impl_within.f
  by_cases h : a ≥ b
  · rw [if_pos h]; simp; omega
  · rw [if_neg h]; simp; omega
theorem impl_dig (a : Int) : impl_isDigit.f a = some (decide (48 ≤ a ∧ a ≤ 57)) := by
  unfold impl_isDigit.f
  by_cases h : a ≥ 48
  · rw [if_pos h]; simp; omega
  · rw [if_neg h]; simp; omega
theorem impl_digs_l0 (s : ByteArray) (hs : s.size ≤ 140737488351232) : ∀ (d i : Nat), s.size - i = d → Ev (fun k => impl_areDigits.l0 k s (s.size : Int) i) (digB s i) := by
  intro d
  induction d with
  | zero =>
    intro i hd
    rw [digB_end s i (by omega)]
    exact Ev.step (f := fun _ => some true) (fun k => by simp only [impl_areDigits.l0]; rw [if_neg (by omega)]) (Ev.now _)
  | succ d ih =>
    intro i hd
    by_cases h1 : 48 ≤ bt s i ∧ bt s i ≤ 57
    · rw [digB_yes s i h1]
      exact Ev.step (fun k => by simp only [impl_areDigits.l0]; rw [if_pos (by omega), if_pos (by omega), if_pos (by omega), impl_dig]; simp only [Option.bind_some]; rw [if_pos (decide_eq_true h1), w64 (by omega) (by omega)]; rfl) (ih (i + 1) (by omega))
    · rw [digB_no s i (by omega) (by omega)]
      exact Ev.step (f := fun _ => some false) (fun k => by simp only [impl_areDigits.l0]; rw [if_pos (by omega), if_pos (by omega), if_pos (by omega), impl_dig]; simp only [Option.bind_some]; rw [if_neg (by simpa using h1)]) (Ev.now _)
theorem impl_digs (s : ByteArray) (hs : s.size ≤ 140737488351232) : Ev (fun k => impl_areDigits.f k s) (digB s 0) := by
  unfold impl_areDigits.f; exact impl_digs_l0 s hs s.size 0 (by omega)
theorem impl_fig (s : ByteArray) (hs : s.size ≤ 140737488351232) : Ev (fun k => impl_FiguresOk.f k s) (figOk s) := by
  unfold impl_FiguresOk.f
  rw [impl_in]
  simp only [Option.bind_some]
  by_cases h1 : 1 ≤ s.size ∧ s.size ≤ 800
  · have e1 : decide ((1 : Int) ≤ (s.size : Int) ∧ (s.size : Int) ≤ 800) = true := decide_eq_true (by omega)
    simp only [e1, if_true]
    refine Ev.bind (impl_digs s hs) ?_
    by_cases h2 : digB s 0 = true
    · simp only [h2, if_true, if_pos (show (0 : Int) < (s.size : Int) by omega)]
      by_cases h3 : bt s 0 = 48
      · simp only [if_pos h3]
        have e : figOk s = ((s.size : Int) == 1) := by
          unfold figOk
          by_cases h4 : s.size = 1
          · simp [h2, h3, h4]
          · have h5 : ¬ (s.size : Int) = 1 := by omega
            have h6 : 1 < s.size := by omega
            simp [h2, h3, h5, h6]
        rw [e]; exact Ev.now _
      · simp only [if_neg h3]
        have e : figOk s = true := by unfold figOk; simp [h2, h3, h1]
        rw [e]; exact Ev.now _
    · simp only [if_neg h2]
      have e : figOk s = false := by unfold figOk; simp [h2]
      rw [e]; exact Ev.now _
  · have e1 : decide ((1 : Int) ≤ (s.size : Int) ∧ (s.size : Int) ≤ 800) = false := decide_eq_false (by omega)
    have e : figOk s = false := by unfold figOk; rw [decide_eq_false h1]; rfl
    simp only [e1, e]
    exact Ev.now _
/-- The figures of a number, a nought of 0. -/
def dgz (m : Nat) (s : ByteArray) : ByteArray := if m = 0 then strOfNums [48] ++ s else dgs m s
theorem dgz_small (m : Nat) (s : ByteArray) (h : m < 10) : dgz m s = strOfNums [48 + (m : Int)] ++ s := by
  unfold dgz
  by_cases h0 : m = 0
  · subst h0; rfl
  · rw [if_neg h0, dgs_pos m s h0, show m / 10 = 0 by omega, dgs_zero, show m % 10 = m by omega]
theorem dgz_far (m : Nat) (s : ByteArray) (h : ¬ m < 10) : dgz m s = dgz (m / 10) (strOfNums [48 + ((m % 10 : Nat) : Int)] ++ s) := by
  unfold dgz
  rw [if_neg (by omega), if_neg (by omega), dgs_pos m s (by omega)]
theorem impl_dec_l0 (n : Int) (b : Bool) : ∀ (d m : Nat) (s : ByteArray), m < 10 ^ (d + 1) → m ≤ 9223372036854775808 → s.size + d ≤ 1000 →
    Ev (fun k => impl_Decimal.l0 k n s (if b then -(m : Int) else m)) (sgn (decide (n < 0)) (dgz m s)) := by
  have hr : ∀ (m : Nat) (s : ByteArray) (k : Nat), m ≤ 9223372036854775808 → s.size ≤ 1000 → impl_Decimal.l0 (k + 1) n s (if b then -(m : Int) else m) =
      if m < 10 then some (sgn (decide (n < 0)) (dgz m s)) else impl_Decimal.l0 k n (strOfNums [48 + ((m % 10 : Nat) : Int)] ++ s) (if b then -((m / 10 : Nat) : Int) else ((m / 10 : Nat) : Int)) := by
    intro m s k hm hs
    simp only [impl_Decimal.l0]
    rw [tdiv10 b m, tmod10 b m]
    have hw : wrap64 (if b then -((m / 10 : Nat) : Int) else ((m / 10 : Nat) : Int)) = if b then -((m / 10 : Nat) : Int) else ((m / 10 : Nat) : Int) := by
      apply w64 <;> (cases b <;> simp <;> omega)
    rw [hw, impl_in]
    have hin : decide ((-9 : Int) ≤ (if b then -(m : Int) else m) ∧ (if b then -(m : Int) else m) ≤ 9) = decide (m < 10) := by
      rw [decide_eq_decide]; cases b <;> simp <;> omega
    have htail : ∀ y : ByteArray, y.size ≤ 10 → y = strOfNums [48 + ((m % 10 : Nat) : Int)] → (if decide (m < 10) = true then (if n < 0 then (if 1 + (y ++ s).size ≤ 9223372036854775807 then some ((⟨#[45]⟩ : ByteArray) ++ (y ++ s)) else none) else some (y ++ s)) else impl_Decimal.l0 k n (y ++ s) (if b then -((m / 10 : Nat) : Int) else ((m / 10 : Nat) : Int))) = if m < 10 then some (sgn (decide (n < 0)) (dgz m s)) else impl_Decimal.l0 k n (strOfNums [48 + ((m % 10 : Nat) : Int)] ++ s) (if b then -((m / 10 : Nat) : Int) else ((m / 10 : Nat) : Int)) := by
      intro y hy hyy
      by_cases h1 : m < 10
      · rw [if_pos (decide_eq_true h1), if_pos h1, dgz_small m s h1]
        rw [show m % 10 = m by omega] at hyy
        rw [← hyy]
        unfold sgn
        by_cases h2 : n < 0
        · rw [if_pos h2, if_pos (by rw [ByteArray.size_append]; omega), if_pos (decide_eq_true h2)]
        · rw [if_neg h2, if_neg (by simpa using h2)]
      · rw [if_neg (by simpa using h1), if_neg h1, hyy]
    by_cases hd : b = true ∧ m % 10 ≠ 0
    · obtain ⟨rfl, hd⟩ := hd
      simp only [if_true] at hin htail ⊢
      rw [if_pos (by omega), w64 (x := - -((m % 10 : Nat) : Int)) (by omega) (by omega), Int.neg_neg, w64 (by omega) (by omega), show (48 + ((m % 10 : Nat) : Int)) % 256 = 48 + ((m % 10 : Nat) : Int) by omega]
      simp only [Option.bind_some]
      rw [if_pos (by rw [str_size]; simp; omega), hin]
      exact htail _ (by rw [str_size]; simp) rfl
    · have e : (if b then -((m % 10 : Nat) : Int) else ((m % 10 : Nat) : Int)) = ((m % 10 : Nat) : Int) := by
        cases b
        · rfl
        · simp only [if_true]; have : m % 10 = 0 := by simp at hd; exact hd
          rw [this]; rfl
      rw [e, if_neg (by omega), w64 (by omega) (by omega), show (48 + ((m % 10 : Nat) : Int)) % 256 = 48 + ((m % 10 : Nat) : Int) by omega]
      simp only [Option.bind_some]
      rw [if_pos (by rw [str_size]; simp; omega), hin]
      exact htail _ (by rw [str_size]; simp) rfl
  intro d
  induction d with
  | zero =>
    intro m s h hm hs
    exact Ev.step (f := fun _ => some (sgn (decide (n < 0)) (dgz m s))) (fun k => by rw [hr m s k hm (by omega), if_pos (by simpa using h)]) (Ev.now _)
  | succ d ih =>
    intro m s h hm hs
    by_cases h1 : m < 10
    · exact Ev.step (f := fun _ => some (sgn (decide (n < 0)) (dgz m s))) (fun k => by rw [hr m s k hm (by omega), if_pos h1]) (Ev.now _)
    · rw [dgz_far m s h1]
      exact Ev.step (fun k => by rw [hr m s k hm (by omega), if_neg h1]) (ih (m / 10) (strOfNums [48 + ((m % 10 : Nat) : Int)] ++ s) (by rw [Nat.pow_succ] at h; omega) (by omega) (by rw [ByteArray.size_append, str_size]; simp; omega))
theorem impl_dec (n : Int) (h0 : -9223372036854775808 ≤ n) (h1 : n < 9223372036854775808) : Ev (fun k => impl_Decimal.f k n) (decT n) := by
  unfold impl_Decimal.f
  have h' := impl_dec_l0 n (decide (n < 0)) 19 n.natAbs ⟨#[]⟩ (Nat.lt_of_le_of_lt (show n.natAbs ≤ 9223372036854775808 by omega) (by decide)) (by omega) (by simp [ByteArray.size])
  rw [← signed_of n] at h'
  have e : decT n = sgn (decide (n < 0)) (dgz n.natAbs ⟨#[]⟩) := by
    by_cases h : n = 0
    · subst h; rfl
    · rw [decT_sgn n h]; unfold dgz; rw [if_neg (by omega)]
  rw [e]
  exact h'
end Go.Proofs.YtkjpelgdppmbjaaDoor.Pure
