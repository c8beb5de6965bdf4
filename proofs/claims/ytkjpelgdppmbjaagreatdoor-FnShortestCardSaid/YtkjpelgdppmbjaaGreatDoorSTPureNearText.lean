/- What the program's Nearest takes, and the texts of figures and exponents. -/
import Derived.Test.YtkjpelgdppmbjaaGreatDoorSTMFnExactScanx1
import Derived.Test.YtkjpelgdppmbjaaGreatDoorSTK1
namespace Go.Proofs.YtkjpelgdppmbjaaGreatDoor.Pure
open Go.RowKit Go.Proofs.YtkjpelgdppmbjaaGreatDoor.MFnExactScan Go.Proofs.YtkjpelgdppmbjaaGreatDoorW.PrintWords Go.Proofs.YtkjpelgdppmbjaaGreatDoorW.PrintLast Go.Proofs.YtkjpelgdppmbjaaGreatDoor.CB
def dgs (m : Nat) (s : ByteArray) : ByteArray := if m = 0 then s else dgs (m / 10) (strOfNums [48 + ((m % 10 : Nat) : Int)] ++ s)
termination_by m
decreasing_by omega
theorem dgs_zero (s : ByteArray) : dgs 0 s = s := by rw [dgs]; rfl
theorem dgs_pos (m : Nat) (s : ByteArray) (h : m ≠ 0) : dgs m s = dgs (m / 10) (strOfNums [48 + ((m % 10 : Nat) : Int)] ++ s) := by rw [dgs, if_neg h]
def decT (n : Int) : ByteArray := if n = 0 then ⟨#[48]⟩ else if n < 0 then ⟨#[45]⟩ ++ dgs n.natAbs ⟨#[]⟩ else dgs n.natAbs ⟨#[]⟩
def sgn (b : Bool) (s : ByteArray) : ByteArray := if b = true then ⟨#[45]⟩ ++ s else s
theorem decT_sgn (n : Int) (h : n ≠ 0) : decT n = sgn (decide (n < 0)) (dgs n.natAbs ⟨#[]⟩) := by
 unfold decT sgn; rw [if_neg h]; by_cases h1 : n < 0 <;> simp [h1]
theorem dgs_size : ∀ (d m : Nat) (s : ByteArray), m < 10 ^ d → (dgs m s).size ≤ s.size + d := by
  intro d
  induction d with
  | zero => intro m s h; obtain rfl : m = 0 := by omega
            rw [dgs_zero]; omega
  | succ d ih =>
    intro m s h
    by_cases h0 : m = 0
    · subst h0; rw [dgs_zero]; omega
    · rw [dgs_pos m s h0]
      have := ih (m / 10) (strOfNums [48 + ((m % 10 : Nat) : Int)] ++ s) (by rw [Nat.pow_succ] at h; omega)
      rw [ByteArray.size_append, str_size] at this
      simp only [List.length_cons, List.length_nil] at this; omega
theorem tdiv10 (b : Bool) (m : Nat) : Int.tdiv (if b then -(m : Int) else m) 10 = if b then -((m / 10 : Nat) : Int) else ((m / 10 : Nat) : Int) := by
 cases b with
 | false => simp only [Bool.false_eq_true, if_false]; rw [tdivN (Int.natCast_nonneg m)]; rfl
 | true => simp only [if_true]; rw [Int.neg_tdiv, tdivN (Int.natCast_nonneg m)]; rfl
theorem tmod10 (b : Bool) (m : Nat) : Int.tmod (if b then -(m : Int) else m) 10 = if b then -((m % 10 : Nat) : Int) else ((m % 10 : Nat) : Int) := by
 cases b with
 | false => simp only [Bool.false_eq_true, if_false]; rw [tmodN (Int.natCast_nonneg m)]; rfl
 | true => simp only [if_true]; rw [Int.neg_tmod, tmodN (Int.natCast_nonneg m)]; rfl
theorem signed_of (n : Int) : n = if decide (n < 0) then -(n.natAbs : Int) else (n.natAbs : Int) := by
 by_cases h : n < 0
 ·rw [decide_eq_true h]; simp only [if_true]; omega
 ·rw [decide_eq_false h]; simp only [Bool.false_eq_true, if_false]; omega
def byteOf (n : Int) : UInt8 := UInt8.ofNat n.toNat
theorem str_data (l : List Int) : (strOfNums l).data.toList = l.map byteOf := by unfold strOfNums byteOf; simp
theorem byteArray_ext {a b : ByteArray} (h : a.data.toList = b.data.toList) : a = b := by
 cases a; cases b; congr; exact Array.toList_inj.mp h
theorem append_data (a b : ByteArray) : (a ++ b).data.toList = a.data.toList ++ b.data.toList := by simp
def digB (s : ByteArray) (i : Nat) : Bool := decide (∀ j : Nat, j < s.size → i ≤ j → 48 ≤ bt s j ∧ bt s j ≤ 57)
theorem digB_end (s : ByteArray) (i : Nat) (h : s.size ≤ i) : digB s i = true := by
 unfold digB; exact decide_eq_true (fun j h1 h2 => by omega)
theorem digB_no (s : ByteArray) (i : Nat) (h : i < s.size) (hb : bt s i < 48 ∨ bt s i > 57) : digB s i = false := by
 unfold digB
 refine decide_eq_false (fun H => ?_)
 have := H i h (Nat.le_refl _); omega
theorem digB_yes (s : ByteArray) (i : Nat) (hb : 48 ≤ bt s i ∧ bt s i ≤ 57) : digB s i = digB s (i + 1) := by
 unfold digB
 rw [decide_eq_decide]
 constructor
 ·exact fun H j h1 h2 => H j h1 (by omega)
 ·intro H j h1 h2
  rcases Nat.eq_or_lt_of_le h2 with e | e
  ·subst e; exact hb
  ·exact H j h1 e
def figOk (s : ByteArray) : Bool := decide (1 ≤ s.size ∧ s.size ≤ 800) && digB s 0 && !(bt s 0 == 48 && decide (1 < s.size))
def dgL (m : Nat) : List UInt8 := (dgs m ⟨#[]⟩).data.toList
theorem dgs_split (m : Nat) : ∀ s : ByteArray, (dgs m s).data.toList = dgL m ++ s.data.toList := by
 induction m using Nat.strongRecOn with
 | _ m ih =>
  intro s
  by_cases h : m = 0
  ·subst h; unfold dgL; rw [dgs_zero, dgs_zero]; rfl
  ·unfold dgL
   rw [dgs_pos m s h, dgs_pos m ⟨#[]⟩ h, ih (m / 10) (by omega), ih (m / 10) (by omega), append_data, append_data, List.append_assoc]
   simp
theorem dgL_zero : dgL 0 = [] := by unfold dgL; rw [dgs_zero]
theorem dgL_pos (m : Nat) (h : m ≠ 0) : dgL m = dgL (m / 10) ++ [UInt8.ofNat (48 + m % 10)] := by
 unfold dgL
 rw [dgs_pos m _ h, dgs_split]
 unfold dgL
 congr 1
def valD : List UInt8 → Nat := List.foldl (fun n b => 10 * n + (b.toNat - 48)) 0
theorem valD_snoc (l : List UInt8) (b : UInt8) : valD (l ++ [b]) = 10 * valD l + (b.toNat - 48) := by unfold valD; rw [List.foldl_append]; rfl
def isDg (b : UInt8) : Prop := 48 ≤ b.toNat ∧ b.toNat ≤ 57
theorem snoc_cases {P : List UInt8 → Prop} (h0 : P []) (h1 : ∀ l b, P l → P (l ++ [b])) : ∀ l, P l := by
 intro l
 have : ∀ n (l : List UInt8), l.length = n → P l := by
  intro n
  induction n with
  | zero => intro l hl; rw [List.length_eq_zero_iff] at hl; rw [hl]; exact h0
  | succ n ih =>
   intro l hl
   have hne : l ≠ [] := by intro h; rw [h] at hl; simp at hl
   rw [← List.dropLast_concat_getLast hne]
   exact h1 _ _ (ih _ (by simp; omega))
 exact this l.length l rfl
theorem valD_lt : ∀ l : List UInt8, (∀ b ∈ l, isDg b) → valD l < 10 ^ l.length := by
 refine snoc_cases (fun _ => by simp [valD]) ?_
 intro l b ih h
 have h1 := ih (fun c hc => h c (by simp [hc]))
 have h2 := h b (by simp)
 rw [valD_snoc, List.length_append, List.length_singleton, Nat.pow_succ]
 unfold isDg at h2
 omega
theorem dgL_valD : ∀ l : List UInt8, (∀ b ∈ l, isDg b) → (∀ b, l.head? = some b → b.toNat ≠ 48) → dgL (valD l) = l := by
 refine snoc_cases (fun _ _ => by simp [valD, dgL_zero]) ?_
 intro l b ih h hh
 have h2 := h b (by simp)
 unfold isDg at h2
 have hpos : valD (l ++ [b]) ≠ 0 := by
  rw [valD_snoc]
  cases l with
  | nil => have := hh b (by simp); simp [valD]; omega
  | cons c l =>
   have hc := hh c (by simp)
   have hd := h c (by simp)
   unfold isDg at hd
   have hge : ∀ (l : List UInt8) (n : Nat), n ≤ List.foldl (fun n (b : UInt8) => 10 * n + (b.toNat - 48)) n l := by
    intro l
    induction l with
    | nil => intro n; exact Nat.le_refl n
    | cons d l ih => intro n; exact Nat.le_trans (show n ≤ 10 * n + (d.toNat - 48) by omega) (ih _)
   have := hge l (10 * 0 + (c.toNat - 48))
   unfold valD
   simp only [List.foldl_cons]
   omega
 rw [dgL_pos _ hpos, valD_snoc, show (10 * valD l + (b.toNat - 48)) / 10 = valD l by omega, show (10 * valD l + (b.toNat - 48)) % 10 = b.toNat - 48 by omega, show 48 + (b.toNat - 48) = b.toNat by omega]
 congr 1
 ·refine ih (fun c hc => h c (by simp [hc])) ?_
  intro c hc
  cases l with
  | nil => simp at hc
  | cons d l => exact hh c (by simpa using hc)
 ·simp
theorem dgL_len : ∀ (d m : Nat), m < 10 ^ d → (dgL m).length ≤ d := by
 intro d m h
 have := dgs_size d m ⟨#[]⟩ h
 have h2 : (dgL m).length = (dgs m ⟨#[]⟩).size := by unfold dgL; simp
 rw [h2]
 exact Nat.le_trans this (Nat.le_of_eq (Nat.zero_add d))
theorem decT_pos (n : Nat) (h : n ≠ 0) : (decT (n : Int)).data.toList = dgL n := by
 unfold decT dgL
 rw [if_neg (by omega), if_neg (by omega), Int.natAbs_natCast]
theorem digB_list (s : ByteArray) : digB s 0 = true ↔ ∀ b ∈ s.data.toList, isDg b := by
 unfold digB
 rw [decide_eq_true_iff]
 constructor
 ·intro H b hb
  obtain ⟨j, hj, rfl⟩ := List.getElem_of_mem hb
  have := H j (by simpa using hj) (by omega)
  rw [bt_list s j (by simpa using hj)] at this
  unfold isDg; omega
 ·intro H j hj _
  rw [bt_list s j hj]
  have := H _ (List.getElem_mem (l := s.data.toList) (by simpa using hj))
  unfold isDg at this; omega
theorem dec_of_val (s : ByteArray) (hd : ∀ b ∈ s.data.toList, isDg b) : (decT ((valD s.data.toList : Nat) : Int)).toList = s.toList ↔ (1 ≤ s.size ∧ ¬ (bt s 0 = 48 ∧ 1 < s.size)) := by
 rw [ByteArray.toList_eq, ByteArray.toList_eq]
 have hlen : s.data.toList.length = s.size := by simp
 rcases hl : s.data.toList with _ | ⟨b, l⟩
 ·rw [hl] at hlen; simp at hlen
  constructor
  ·intro h; exact absurd h (by simp [valD, decT])
  ·intro h; omega
 ·rw [hl] at hlen hd
  have hb : bt s 0 = (b.toNat : Int) := by
   have := bt_list s 0 (by simp at hlen; omega)
   simp only [hl, List.getElem_cons_zero] at this
   exact this
  simp only [List.length_cons] at hlen
  by_cases h0 : b.toNat = 48
  ·by_cases h1 : l = []
   ·subst h1
    have hv : valD [b] = 0 := by simp [valD, h0]
    rw [hv]
    constructor
    ·intro _; simp at hlen; omega
    ·intro _
     show [(48 : UInt8)] = [b]
     congr 1
     exact UInt8.toNat_inj.mp h0.symm
   ·have hl1 : 1 ≤ l.length := by
     rcases l with _ | ⟨_, _⟩
     ·exact absurd rfl h1
     ·simp
    constructor
    ·intro h
     exfalso
     have hv : valD (b :: l) = valD l := by unfold valD; simp [h0]
     rw [hv] at h
     have hlt := valD_lt l (fun c hc => hd c (by simp [hc]))
     by_cases hz : valD l = 0
     ·rw [hz] at h
      have h4 : ([(48 : UInt8)] : List UInt8).length = (b :: l).length := congrArg List.length h
      simp only [List.length_cons, List.length_nil] at h4; omega
     ·rw [decT_pos _ hz] at h
      have := congrArg List.length h
      have h3 := dgL_len _ _ hlt
      rw [List.length_cons] at this; omega
    ·intro h; omega
  ·have hb2 := hd b (by simp)
   unfold isDg at hb2
   have hv := dgL_valD (b :: l) hd (by intro c hc; simp at hc; rw [← hc]; exact h0)
   have hne : valD (b :: l) ≠ 0 := by intro h; rw [h, dgL_zero] at hv; simp at hv
   rw [decT_pos _ hne, hv]
   constructor
   ·intro _; omega
   ·intro _; rfl
def decN (v : Nat) : ByteArray := decT (v : Int)
theorem decN_of (s : ByteArray) (hd : ∀ b ∈ s.data.toList, isDg b) (h1 : 1 ≤ s.size) (h2 : ¬ (bt s 0 = 48 ∧ 1 < s.size)) : decN (valD s.data.toList) = s := by
 have h := (dec_of_val s hd).2 ⟨h1, h2⟩
 rw [ByteArray.toList_eq, ByteArray.toList_eq] at h
 exact byteArray_ext h
theorem dgL_dg (m : Nat) : ∀ b ∈ dgL m, isDg b := by
 induction m using Nat.strongRecOn with
 | _ m ih =>
  by_cases h : m = 0
  ·subst h; rw [dgL_zero]; simp
  ·rw [dgL_pos m h]
   intro b hb
   rcases List.mem_append.1 hb with e | e
   ·exact ih (m / 10) (by omega) b e
   ·rw [List.mem_singleton.1 e]; unfold isDg
    have : (UInt8.ofNat (48 + m % 10)).toNat = 48 + m % 10 := by simp; omega
    rw [this]; omega
theorem valD_dgL (m : Nat) : valD (dgL m) = m := by
 induction m using Nat.strongRecOn with
 | _ m ih =>
  by_cases h : m = 0
  ·subst h; rw [dgL_zero]; rfl
  ·rw [dgL_pos m h, valD_snoc, ih (m / 10) (by omega)]
   have : (UInt8.ofNat (48 + m % 10)).toNat = 48 + m % 10 := by simp; omega
   rw [this]; omega
theorem dgL_head (m : Nat) : ∀ b, (dgL m).head? = some b → b.toNat ≠ 48 := by
 induction m using Nat.strongRecOn with
 | _ m ih =>
  by_cases h : m = 0
  ·subst h; rw [dgL_zero]; simp
  ·rw [dgL_pos m h]
   intro b hb
   by_cases h1 : m / 10 = 0
   ·rw [h1, dgL_zero, List.nil_append] at hb
    rw [← (Option.some.inj hb : UInt8.ofNat (48 + m % 10) = b)]
    have : (UInt8.ofNat (48 + m % 10)).toNat = 48 + m % 10 := by simp; omega
    rw [this]; omega
   ·have hne : dgL (m / 10) ≠ [] := by
     rw [dgL_pos _ h1]; simp
    have hih := ih (m / 10) (by omega) b
    cases hc : dgL (m / 10) with
    | nil => exact absurd hc hne
    | cons c t =>
     rw [hc] at hb hih
     exact hih hb
theorem decN_data (v : Nat) : (decN v).data.toList = if v = 0 then [48] else dgL v := by
 by_cases h : v = 0
 ·subst h; rfl
 ·rw [if_neg h]; exact decT_pos v h
theorem decN_dg (v : Nat) : ∀ b ∈ (decN v).data.toList, isDg b := by
 rw [decN_data]
 split
 ·intro b hb; simp at hb; rw [hb]; exact ⟨by decide, by decide⟩
 ·exact dgL_dg v
theorem valD_decN (v : Nat) : valD (decN v).data.toList = v := by
 rw [decN_data]
 split
 ·rename_i h; rw [h]; rfl
 ·exact valD_dgL v
theorem size_data (s : ByteArray) : s.data.toList.length = s.size := by simp
theorem decN_pos (v : Nat) : 1 ≤ (decN v).size := by
 rw [← size_data, decN_data]
 split
 ·simp
 ·rename_i h; rw [dgL_pos v h]; simp
theorem decN_lead (v : Nat) : ¬ (bt (decN v) 0 = 48 ∧ 1 < (decN v).size) := by
 intro ⟨h1, h2⟩
 have hp := decN_pos v
 have hb := bt_list (decN v) 0 (by omega)
 rw [← size_data] at h2
 rw [decN_data] at h2
 by_cases h : v = 0
 ·rw [if_pos h] at h2; simp at h2
 ·have hd := decN_data v
  rw [if_neg h] at hd
  have hh := dgL_head v
  rw [← hd] at hh
  refine hh ((decN v).data.toList[0]'(by rw [size_data]; omega)) (by rw [List.head?_eq_getElem?, List.getElem?_eq_getElem]) ?_
  have h3 : (((decN v).data.toList[0]'(by rw [size_data]; omega)).toNat : Int) = 48 := by rw [← h1]; exact hb.symm
  omega
theorem decN_size (v d : Nat) (hd : 1 ≤ d) : (decN v).size ≤ d ↔ v < 10 ^ d := by
 constructor
 ·intro h
  have h1 := valD_lt _ (decN_dg v)
  rw [valD_decN, size_data] at h1
  exact Nat.lt_of_lt_of_le h1 (Nat.pow_le_pow_right (by omega) h)
 ·intro h
  rw [← size_data, decN_data]
  split
  ·simpa using hd
  ·exact dgL_len d v h
def fitsT (v : Nat) : ByteArray × Bool := if (decN v).size ≤ 800 then (decN v, true) else (⟨#[]⟩, false)
theorem figOk_decN (v : Nat) : figOk (decN v) = decide ((decN v).size ≤ 800) := by
 have h1 := decN_pos v
 have h2 := (digB_list (decN v)).2 (decN_dg v)
 have h3 := decN_lead v
 unfold figOk
 rw [h2]
 by_cases h : (decN v).size ≤ 800
 ·rw [decide_eq_true (show 1 ≤ (decN v).size ∧ (decN v).size ≤ 800 from ⟨h1, h⟩), decide_eq_true h]
  by_cases h4 : bt (decN v) 0 = 48
  ·have : ¬ 1 < (decN v).size := fun h5 => h3 ⟨h4, h5⟩
   simp [this]
  ·simp [h4]
 ·rw [decide_eq_false (show ¬ (1 ≤ (decN v).size ∧ (decN v).size ≤ 800) from fun hh => h hh.2), decide_eq_false h]; rfl
theorem figOk_parts (s : ByteArray) (h : figOk s = true) : 1 ≤ s.size ∧ s.size ≤ 800 ∧ (∀ b ∈ s.data.toList, isDg b) ∧ ¬ (bt s 0 = 48 ∧ 1 < s.size) := by
 unfold figOk at h
 simp at h
 obtain ⟨⟨h1, h2⟩, h3⟩ := h
 refine ⟨h1.1, h1.2, (digB_list s).1 h2, ?_⟩
 intro ⟨h4, h5⟩
 rcases h3 with h | h
 ·exact h h4
 ·omega
theorem figOk_dec (s : ByteArray) (h : figOk s = true) : decN (valD s.data.toList) = s := by
 obtain ⟨h1, h2, h3, h4⟩ := figOk_parts s h
 exact decN_of s h3 h1 h4
def nearOk (s : ByteArray) (E : Int) : Bool := figOk s && decide (s.size ≤ 60) && decide (-500 ≤ E ∧ E ≤ 500) && !decide (bt s 0 = 48)
theorem impl_in (a b c : Int) : impl_within.f a b c = some (decide (b ≤ a ∧ a ≤ c)) := by
 unfold impl_within.f
 by_cases h : a ≥ b
 ·rw [if_pos h]; simp; omega
 ·rw [if_neg h]; simp; omega
theorem impl_dig (a : Int) : impl_isDigit.f a = some (decide (48 ≤ a ∧ a ≤ 57)) := by
 unfold impl_isDigit.f
 by_cases h : a ≥ 48
 ·rw [if_pos h]; simp; omega
 ·rw [if_neg h]; simp; omega
theorem impl_digs_l0 (s : ByteArray) (hs : s.size ≤ 140737488351232) : ∀ (d i : Nat), s.size - i = d → Ev (fun k => impl_areDigits.l0 k s (s.size : Int) i) (digB s i) := by
 intro d
 induction d with
 | zero =>
  intro i hd
  rw [digB_end s i (by omega)]
  exact Ev.step (f := fun _ => some true) (fun k => by simp only [impl_areDigits.l0]; rw [if_neg (by omega)]) (Ev.now _)
 | succ d ih =>
  intro i hd
  by_cases h1 : 48 ≤ bt s i ∧ bt s i ≤ 57
  ·rw [digB_yes s i h1]
   exact Ev.step (fun k => by simp only [impl_areDigits.l0]; rw [if_pos (by omega), if_pos (by omega), if_pos (by omega), impl_dig]; simp only [Option.bind_some]; rw [if_pos (decide_eq_true h1), w64 (by omega) (by omega)]; rfl) (ih (i + 1) (by omega))
  ·rw [digB_no s i (by omega) (by omega)]
   exact Ev.step (f := fun _ => some false) (fun k => by simp only [impl_areDigits.l0]; rw [if_pos (by omega), if_pos (by omega), if_pos (by omega), impl_dig]; simp only [Option.bind_some]; rw [if_neg (by simpa using h1)]) (Ev.now _)
theorem impl_digs (s : ByteArray) (hs : s.size ≤ 140737488351232) : Ev (fun k => impl_areDigits.f k s) (digB s 0) := by
 unfold impl_areDigits.f; exact impl_digs_l0 s hs s.size 0 (by omega)
theorem impl_fig (s : ByteArray) (hs : s.size ≤ 140737488351232) : Ev (fun k => impl_FiguresOk.f k s) (figOk s) := by
 unfold impl_FiguresOk.f
 rw [impl_in]
 simp only [Option.bind_some]
 by_cases h1 : 1 ≤ s.size ∧ s.size ≤ 800
 ·have e1 : decide ((1 : Int) ≤ (s.size : Int) ∧ (s.size : Int) ≤ 800) = true := decide_eq_true (by omega)
  simp only [e1, if_true]
  refine Ev.bind (impl_digs s hs) ?_
  by_cases h2 : digB s 0 = true
  ·simp only [h2, if_true, if_pos (show (0 : Int) < (s.size : Int) by omega)]
   by_cases h3 : bt s 0 = 48
   ·simp only [if_pos h3]
    have e : figOk s = ((s.size : Int) == 1) := by
     unfold figOk
     by_cases h4 : s.size = 1
     ·simp [h2, h3, h4]
     ·have h5 : ¬ (s.size : Int) = 1 := by omega
      have h6 : 1 < s.size := by omega
      simp [h2, h3, h5, h6]
    rw [e]; exact Ev.now _
   ·simp only [if_neg h3]
    have e : figOk s = true := by unfold figOk; simp [h2, h3, h1]
    rw [e]; exact Ev.now _
  ·simp only [if_neg h2]
   have e : figOk s = false := by unfold figOk; simp [h2]
   rw [e]; exact Ev.now _
 ·have e1 : decide ((1 : Int) ≤ (s.size : Int) ∧ (s.size : Int) ≤ 800) = false := decide_eq_false (by omega)
  have e : figOk s = false := by unfold figOk; rw [decide_eq_false h1]; rfl
  simp only [e1, e]
  exact Ev.now _
def dgz (m : Nat) (s : ByteArray) : ByteArray := if m = 0 then strOfNums [48] ++ s else dgs m s
theorem dgz_small (m : Nat) (s : ByteArray) (h : m < 10) : dgz m s = strOfNums [48 + (m : Int)] ++ s := by
 unfold dgz
 by_cases h0 : m = 0
 ·subst h0; rfl
 ·rw [if_neg h0, dgs_pos m s h0, show m / 10 = 0 by omega, dgs_zero, show m % 10 = m by omega]
theorem dgz_far (m : Nat) (s : ByteArray) (h : ¬ m < 10) : dgz m s = dgz (m / 10) (strOfNums [48 + ((m % 10 : Nat) : Int)] ++ s) := by
 unfold dgz
 rw [if_neg (by omega), if_neg (by omega), dgs_pos m s (by omega)]
theorem impl_dec_l0 (n : Int) (b : Bool) : ∀ (d m : Nat) (s : ByteArray), m < 10 ^ (d + 1) → m ≤ 9223372036854775808 → s.size + d ≤ 1000 →
  Ev (fun k => impl_Decimal.l0 k n s (if b then -(m : Int) else m)) (sgn (decide (n < 0)) (dgz m s)) := by
 have hr : ∀ (m : Nat) (s : ByteArray) (k : Nat), m ≤ 9223372036854775808 → s.size ≤ 1000 → impl_Decimal.l0 (k + 1) n s (if b then -(m : Int) else m) =
   if m < 10 then some (sgn (decide (n < 0)) (dgz m s)) else impl_Decimal.l0 k n (strOfNums [48 + ((m % 10 : Nat) : Int)] ++ s) (if b then -((m / 10 : Nat) : Int) else ((m / 10 : Nat) : Int)) := by
  intro m s k hm hs
  simp only [impl_Decimal.l0]
  rw [tdiv10 b m, tmod10 b m]
  have hw : wrap64 (if b then -((m / 10 : Nat) : Int) else ((m / 10 : Nat) : Int)) = if b then -((m / 10 : Nat) : Int) else ((m / 10 : Nat) : Int) := by
   apply w64 <;> (cases b <;> simp <;> omega)
  rw [hw, impl_in]
  have hin : decide ((-9 : Int) ≤ (if b then -(m : Int) else m) ∧ (if b then -(m : Int) else m) ≤ 9) = decide (m < 10) := by
   rw [decide_eq_decide]; cases b <;> simp <;> omega
  have htail : ∀ y : ByteArray, y.size ≤ 10 → y = strOfNums [48 + ((m % 10 : Nat) : Int)] → (if decide (m < 10) = true then (if n < 0 then (if 1 + (y ++ s).size ≤ 9223372036854775807 then some ((⟨#[45]⟩ : ByteArray) ++ (y ++ s)) else none) else some (y ++ s)) else impl_Decimal.l0 k n (y ++ s) (if b then -((m / 10 : Nat) : Int) else ((m / 10 : Nat) : Int))) = if m < 10 then some (sgn (decide (n < 0)) (dgz m s)) else impl_Decimal.l0 k n (strOfNums [48 + ((m % 10 : Nat) : Int)] ++ s) (if b then -((m / 10 : Nat) : Int) else ((m / 10 : Nat) : Int)) := by
   intro y hy hyy
   by_cases h1 : m < 10
   ·rw [if_pos (decide_eq_true h1), if_pos h1, dgz_small m s h1]
    rw [show m % 10 = m by omega] at hyy
    rw [← hyy]
    unfold sgn
    by_cases h2 : n < 0
    ·rw [if_pos h2, if_pos (by rw [ByteArray.size_append]; omega), if_pos (decide_eq_true h2)]
    ·rw [if_neg h2, if_neg (by simpa using h2)]
   ·rw [if_neg (by simpa using h1), if_neg h1, hyy]
  by_cases hd : b = true ∧ m % 10 ≠ 0
  ·obtain ⟨rfl, hd⟩ := hd
   simp only [if_true] at hin htail ⊢
   rw [if_pos (by omega), w64 (x := - -((m % 10 : Nat) : Int)) (by omega) (by omega), Int.neg_neg, w64 (by omega) (by omega), show (48 + ((m % 10 : Nat) : Int)) % 256 = 48 + ((m % 10 : Nat) : Int) by omega]
   simp only [Option.bind_some]
   rw [if_pos (by rw [str_size]; simp; omega), hin]
   exact htail _ (by rw [str_size]; simp) rfl
  ·have e : (if b then -((m % 10 : Nat) : Int) else ((m % 10 : Nat) : Int)) = ((m % 10 : Nat) : Int) := by
    cases b
    ·rfl
    ·simp only [if_true]; have : m % 10 = 0 := by simp at hd; exact hd
     rw [this]; rfl
   rw [e, if_neg (by omega), w64 (by omega) (by omega), show (48 + ((m % 10 : Nat) : Int)) % 256 = 48 + ((m % 10 : Nat) : Int) by omega]
   simp only [Option.bind_some]
   rw [if_pos (by rw [str_size]; simp; omega), hin]
   exact htail _ (by rw [str_size]; simp) rfl
 intro d
 induction d with
 | zero =>
  intro m s h hm hs
  exact Ev.step (f := fun _ => some (sgn (decide (n < 0)) (dgz m s))) (fun k => by rw [hr m s k hm (by omega), if_pos (by simpa using h)]) (Ev.now _)
 | succ d ih =>
  intro m s h hm hs
  by_cases h1 : m < 10
  ·exact Ev.step (f := fun _ => some (sgn (decide (n < 0)) (dgz m s))) (fun k => by rw [hr m s k hm (by omega), if_pos h1]) (Ev.now _)
  ·rw [dgz_far m s h1]
   exact Ev.step (fun k => by rw [hr m s k hm (by omega), if_neg h1]) (ih (m / 10) (strOfNums [48 + ((m % 10 : Nat) : Int)] ++ s) (by rw [Nat.pow_succ] at h; omega) (by omega) (by rw [ByteArray.size_append, str_size]; simp; omega))
theorem impl_dec (n : Int) (h0 : -9223372036854775808 ≤ n) (h1 : n < 9223372036854775808) : Ev (fun k => impl_Decimal.f k n) (decT n) := by
 unfold impl_Decimal.f
 have h' := impl_dec_l0 n (decide (n < 0)) 19 n.natAbs ⟨#[]⟩ (Nat.lt_of_le_of_lt (show n.natAbs ≤ 9223372036854775808 by omega) (by decide)) (by omega) (by simp [ByteArray.size])
 rw [← signed_of n] at h'
 have e : decT n = sgn (decide (n < 0)) (dgz n.natAbs ⟨#[]⟩) := by
  by_cases h : n = 0
  ·subst h; rfl
  ·rw [decT_sgn n h]; unfold dgz; rw [if_neg (by omega)]
 rw [e]
 exact h'
end Go.Proofs.YtkjpelgdppmbjaaGreatDoor.Pure
