/- At every number the program's ShowNumber and the reference's tell the same text. No condition but the statement's own. -/
import Derived.Test.YtkjpelgdppmbjaaGreatDoorSWZip
import Derived.Test.YtkjpelgdppmbjaaGreatDoorSWMFnExactShowNumberx12
import Derived.Test.YtkjpelgdppmbjaaGreatDoorSWKA
namespace Go.Proofs.YtkjpelgdppmbjaaGreatDoor.Pure
open Go.RowKit MFnExactShowNumber YtkjpelgdppmbjaaGreatDoorW.PrintWords YtkjpelgdppmbjaaGreatDoorW.PrintLast Go.Proofs.YtkjpelgdppmbjaaGreatDoor.CB
open Go.Proofs.YtkjpelgdppmbjaaGreatDoor
set_option linter.unusedSimpArgs false
theorem spec_pow_l0 (n : Nat) (hn : n ≤ 63) : ∀ (d i : Nat), n - i = d → i ≤ n → Ev (fun k => spec_l03Pow.l0 k (n : Int) ((2 ^ i : Nat) : Int) (i : Int)) ((2 ^ n : Nat) : Int) := by
 intro d
 induction d with
 | zero =>
  intro i hd hi
  obtain rfl : i = n := by omega
  exact Ev.step (f := fun _ => some ((2 ^ i : Nat) : Int)) (fun k => by simp only [spec_l03Pow.l0]; rw [if_neg (by omega)]) (Ev.now _)
 | succ d ih =>
  intro i hd hi
  refine Ev.step (fun k => ?_) (ih (i + 1) (by omega) (by omega))
  simp only [spec_l03Pow.l0]
  have hp : 2 ^ (i + 1) ≤ 2 ^ 63 := Nat.pow_le_pow_right (by omega) (by omega)
  rw [if_pos (by omega), wu64, w64 (by omega) (by omega)]
  rw [Nat.pow_succ] at hp
  rw [show ((2 ^ i : Nat) : Int) * 2 % 18446744073709551616 = ((2 ^ (i + 1) : Nat) : Int) by rw [Nat.pow_succ]; omega]
  rfl
theorem spec_pow (n : Nat) (hn : n ≤ 63) : Ev (fun k => spec_l03Pow.f k (n : Int)) ((2 ^ n : Nat) : Int) := by
 unfold spec_l03Pow.f; exact spec_pow_l0 n hn n 0 (by omega) (by omega)
theorem spec_pow63 : Ev (fun k => spec_l03Pow.f k 63) 9223372036854775808 := spec_pow 63 (by omega)
def partsN (x : Nat) : Int × Bool × Int × Int :=
 if 9218868437227405312 < x % 9223372036854775808 then (1, false, 0, 0)
 else if x % 9223372036854775808 = 9218868437227405312 then (2, decide (9223372036854775808 ≤ x), 0, 0)
 else if x % 9223372036854775808 = 0 then (3, decide (9223372036854775808 ≤ x), 0, 0)
 else if x % 9223372036854775808 < 4503599627370496 then (4, decide (9223372036854775808 ≤ x), ((x % 4503599627370496 : Nat) : Int), -1074)
 else (4, decide (9223372036854775808 ≤ x), ((x % 4503599627370496 + 4503599627370496 : Nat) : Int), ((x / 4503599627370496 % 2048 : Nat) : Int) - 1075)
def nanB (x : Nat) : Bool := decide (9218868437227405312 < x % 9223372036854775808)
theorem spec_parts_j1 (k : Nat) (e f : Int) (b z : Bool) : spec_PartsOfNumber.j1 (k + 1) e f z 0 b 0 0 = if z = true then some (3, b, 0, 0) else if e = 0 then some (4, b, f, (-1074)) else some (4, b, IntKind.u64.wrap (f + 4503599627370496), wrap64 (e - 1075)) := rfl
theorem spec_parts_j0 (k : Nat) (e f : Int) (b z : Bool) : spec_PartsOfNumber.j0 (k + 1) e f z 0 b 0 0 = if z = true then some (1, false, 0, 0) else if e = 2047 then some (2, b, 0, 0) else if e = 0 then spec_PartsOfNumber.j1 k e f (f == 0) 0 b 0 0 else spec_PartsOfNumber.j1 k e f false 0 b 0 0 := rfl
theorem spec_parts (x : Nat) (hx : x < 18446744073709551616) : Ev (fun k => spec_PartsOfNumber.f k (x : Int)) (partsN x) := by
 unfold spec_PartsOfNumber.f
 refine Ev.bind spec_pow63 ?_
 simp only [if_neg (show ¬ (9223372036854775808 : Int) = 0 by omega)]
 have e1 : wrap64 (Int.tmod (IntKind.u64.wrap (Int.tdiv (x : Int) 4503599627370496)) 2048) = ((x / 4503599627370496 % 2048 : Nat) : Int) := by
  rw [wu64, tdivN (Int.natCast_nonneg x), tmodN (by omega), w64 (by omega) (by omega)]; omega
 have e2 : Int.tmod (x : Int) 4503599627370496 = ((x % 4503599627370496 : Nat) : Int) := by rw [tmodN (Int.natCast_nonneg x)]; omega
 have e3 : ((IntKind.u64.wrap (Int.tdiv (x : Int) 9223372036854775808)) == 1) = decide (9223372036854775808 ≤ x) := by
  rw [wu64, tdivN (Int.natCast_nonneg x), Bool.eq_iff_iff]; simp; omega
 rw [e1, e2, e3]
 generalize hb : decide (9223372036854775808 ≤ x) = b
 have hp : partsN x = if 9218868437227405312 < x % 9223372036854775808 then (1, false, 0, 0)
  else if x % 9223372036854775808 = 9218868437227405312 then (2, b, 0, 0)
  else if x % 9223372036854775808 = 0 then (3, b, 0, 0)
  else if x % 9223372036854775808 < 4503599627370496 then (4, b, ((x % 4503599627370496 : Nat) : Int), -1074)
  else (4, b, ((x % 4503599627370496 + 4503599627370496 : Nat) : Int), ((x / 4503599627370496 % 2048 : Nat) : Int) - 1075) := by unfold partsN; rw [hb]
 rw [hp]
 by_cases h1 : x / 4503599627370496 % 2048 = 2047
 ·simp only [if_pos (show ((x / 4503599627370496 % 2048 : Nat) : Int) = 2047 by omega)]
  by_cases h2 : x % 4503599627370496 = 0
  ·rw [if_neg (by omega), if_pos (by omega)]
   exact Ev.step (f := fun _ => some (2, b, 0, 0)) (fun k => by rw [spec_parts_j0, if_neg (by simp [h2]), if_pos (by omega)]) (Ev.now _)
  ·rw [if_pos (by omega)]
   exact Ev.step (f := fun _ => some (1, false, 0, 0)) (fun k => by rw [spec_parts_j0, if_pos (by simp; omega)]) (Ev.now _)
 ·simp only [if_neg (show ¬ ((x / 4503599627370496 % 2048 : Nat) : Int) = 2047 by omega)]
  rw [if_neg (by omega), if_neg (by omega)]
  by_cases h2 : x / 4503599627370496 % 2048 = 0
  ·refine Ev.step (f := fun k => spec_PartsOfNumber.j1 k ((x / 4503599627370496 % 2048 : Nat) : Int) ((x % 4503599627370496 : Nat) : Int) (((x % 4503599627370496 : Nat) : Int) == 0) 0 b 0 0) (fun k => by rw [spec_parts_j0, if_neg (by simp), if_neg (by omega), if_pos (by omega)]) ?_
   by_cases h3 : x % 4503599627370496 = 0
   ·rw [if_pos (by omega)]
    exact Ev.step (f := fun _ => some (3, b, 0, 0)) (fun k => by rw [spec_parts_j1, if_pos (by simp [h3])]) (Ev.now _)
   ·rw [if_neg (by omega), if_pos (by omega)]
    exact Ev.step (f := fun _ => some (4, b, ((x % 4503599627370496 : Nat) : Int), -1074)) (fun k => by rw [spec_parts_j1, if_neg (by simp; omega), if_pos (by omega)]) (Ev.now _)
  ·refine Ev.step (f := fun k => spec_PartsOfNumber.j1 k ((x / 4503599627370496 % 2048 : Nat) : Int) ((x % 4503599627370496 : Nat) : Int) false 0 b 0 0) (fun k => by rw [spec_parts_j0, if_neg (by simp), if_neg (by omega), if_neg (by omega)]) ?_
   rw [if_neg (by omega), if_neg (by omega)]
   refine Ev.step (f := fun _ => some (4, b, ((x % 4503599627370496 + 4503599627370496 : Nat) : Int), ((x / 4503599627370496 % 2048 : Nat) : Int) - 1075)) (fun k => ?_) (Ev.now _)
   rw [spec_parts_j1, if_neg (by simp), if_neg (by omega), wu64, w64 (by omega) (by omega), show (((x % 4503599627370496 : Nat) : Int) + 4503599627370496) % 18446744073709551616 = ((x % 4503599627370496 + 4503599627370496 : Nat) : Int) by omega]
def partsR (d : Ieee.Datum) : Int × Bool × Int × Int := match d with | .nan _ _ => (1, false, 0, 0) | .infinity b => (2, b, 0, 0) | .number b m e => if m = 0 then (3, b, 0, 0) else (4, b, (m : Int), e)
open CG in
theorem parts_read (x : Nat) (hx : x < 18446744073709551616) : partsN x = partsR (Ieee.double.read x) := by
 rw [read_def x hx]
 unfold partsN CG.sgn
 by_cases h1 : 9218868437227405312 < x % 9223372036854775808
 ·rw [if_pos h1, if_neg (by omega), if_neg (by omega), if_neg (by omega)]; rfl
 ·rw [if_neg h1]
  by_cases h2 : x % 9223372036854775808 = 9218868437227405312
  ·rw [if_pos h2, if_neg (by omega), if_neg (by omega), if_pos h2]; rfl
  ·rw [if_neg h2]
   by_cases h3 : x % 9223372036854775808 = 0
   ·rw [if_pos h3, if_pos (by omega), h3]; rfl
   ·rw [if_neg h3]
    by_cases h4 : x % 9223372036854775808 < 4503599627370496
    ·rw [if_pos h4, if_pos h4]
     unfold partsR
     simp only [if_neg h3]
     rw [show x % 9223372036854775808 = x % 4503599627370496 by omega]
    ·rw [if_neg h4, if_neg h4, if_pos (by omega)]
     unfold partsR
     simp only [if_neg (show ¬ 4503599627370496 + x % 4503599627370496 = 0 by omega)]
     rw [Nat.add_comm 4503599627370496]
theorem parts_is {x : Nat} {d : Ieee.Datum} (hx : x < 18446744073709551616) (h : Ieee.double.read x = d) : Ev (fun k => spec_PartsOfNumber.f k (x : Int)) (partsR d) := by
 have := spec_parts x hx
 rw [parts_read x hx, h] at this
 exact this
theorem parts_some {x m : Nat} {s : Bool} {i : Int} (hx : x < 18446744073709551616) (h : Ieee.double.read x = .number s m i) (hm : m ≠ 0) : Ev (fun k => spec_PartsOfNumber.f k (x : Int)) (4, s, (m : Int), i) := by
 have := parts_is hx h
 unfold partsR at this
 simp only [if_neg hm] at this
 exact this
def valI (B : Int) : List Int → Int
 | [] => 0
 | x :: l => x + B * valI B l
theorem valI_append (B : Int) (l m : List Int) : valI B (l ++ m) = valI B l + B ^ l.length * valI B m := by
 induction l with
 | nil => simp [valI]
 | cons x l ih =>
  simp only [List.cons_append, valI, ih, List.length_cons, Int.pow_succ]
  grind
theorem valI_set (B : Int) (v : Int) : ∀ (l : List Int) (i : Nat), i < l.length → valI B (l.set i v) = valI B l + B ^ i * (v - l.getD i 0) := by
 intro l
 induction l with
 | nil => intro i h; simp at h
 | cons x l ih =>
  intro i h
  cases i with
  | zero => simp [valI]; omega
  | succ i =>
   have := ih i (by simpa using h)
   simp only [List.set_cons_succ, valI, this, List.getD_cons_succ, Int.pow_succ]
   grind
theorem valI_take_succ (B : Int) (l : List Int) (i : Nat) (h : i < l.length) : valI B (l.take (i + 1)) = valI B (l.take i) + B ^ i * l.getD i 0 := by
 rw [List.take_succ_eq_append_getElem h, valI_append]
 have : (l.take i).length = i := by simp; omega
 rw [this]
 simp [valI, List.getD_eq_getElem?_getD, List.getElem?_eq_getElem h]
theorem valI_zeros (B : Int) (n : Nat) : valI B (List.replicate n 0) = 0 := by
 induction n with
 | zero => rfl
 | succ n ih => rw [List.replicate_succ]; simp [valI, ih]
theorem valI_split (B : Int) (l : List Int) (i : Nat) (h : i ≤ l.length) : valI B l = valI B (l.take i) + B ^ i * valI B (l.drop i) := by
 conv => lhs; rw [← List.take_append_drop i l]
 rw [valI_append]
 have : (l.take i).length = i := by simp; omega
 rw [this]
theorem valI_range (B : Int) (hB : 0 < B) (l : List Int) (h : ∀ x ∈ l, 0 ≤ x ∧ x < B) : 0 ≤ valI B l ∧ valI B l < B ^ l.length := by
 induction l with
 | nil => simp [valI]
 | cons x l ih =>
  have h1 := h x (by simp)
  have h2 := ih (fun y hy => h y (by simp [hy]))
  simp only [valI, List.length_cons, Int.pow_succ]
  have h3 : 0 ≤ B * valI B l := Int.mul_nonneg (by omega) h2.1
  have h4 : B * valI B l ≤ B * (B ^ l.length - 1) := Int.mul_le_mul_of_nonneg_left (by omega) (by omega)
  have h5 : B * (B ^ l.length - 1) = B ^ l.length * B - B := by grind
  omega
theorem rd_nat (l : List Int) (i : Nat) : rd l (i : Int) = l.getD i 0 := by unfold rd; rw [Int.toNat_natCast]
theorem getD_mem (l : List Int) (i : Nat) (h : i < l.length) : l.getD i 0 ∈ l := by
 rw [List.getD_eq_getElem?_getD, List.getElem?_eq_getElem h]; simp
theorem getD_set_eq (l : List Int) (i : Nat) (v : Int) (h : i < l.length) : (l.set i v).getD i 0 = v := by
 simp [List.getD_eq_getElem?_getD, h]
theorem getD_set_ne (l : List Int) (i j : Nat) (v : Int) (h : i ≠ j) : (l.set i v).getD j 0 = l.getD j 0 := by
 simp [List.getD_eq_getElem?_getD, List.getElem?_set_ne h]
theorem set_last (m : Nat) (z d : Int) (T : List Int) : (List.replicate (m + 1) z ++ T).set m d = List.replicate m z ++ d :: T := by
 rw [List.replicate_succ', List.append_assoc, List.set_append_right _ _ (by simp)]
 simp
theorem getD_out (l : List Int) (i : Nat) (h : l.length ≤ i) : l.getD i 0 = 0 := by rw [List.getD_eq_getElem?_getD, List.getElem?_eq_none h]; rfl
theorem getD_zeros (n j : Nat) : (List.replicate n (0 : Int)).getD j 0 = 0 := by
 by_cases h : j < n
 ·rw [List.getD_eq_getElem?_getD, List.getElem?_replicate]; simp [h]
 ·rw [getD_out _ _ (by simp; omega)]
def vM : List Int → Int
 | [] => 0
 | c :: T => (c - 48) * 10 ^ T.length + vM T
def dgI (T : List Int) : Prop := ∀ c ∈ T, 48 ≤ c ∧ c ≤ 57
theorem valD_foldl (l : List UInt8) : ∀ n : Nat, List.foldl (fun n (b : UInt8) => 10 * n + (b.toNat - 48)) n l = n * 10 ^ l.length + valD l := by
 induction l with
 | nil => intro n; simp [valD]
 | cons b l ih =>
  intro n
  unfold valD
  rw [List.foldl_cons, List.foldl_cons, ih, ih, List.length_cons, Nat.pow_succ, Nat.mul_zero, Nat.zero_add]
  rw [Nat.add_mul, Nat.mul_comm 10 n, Nat.mul_assoc n 10, Nat.mul_comm 10 (10 ^ l.length)]
  omega
theorem valD_cons (b : UInt8) (l : List UInt8) : valD (b :: l) = (b.toNat - 48) * 10 ^ l.length + valD l := by
 have := valD_foldl l (10 * 0 + (b.toNat - 48))
 unfold valD
 rw [List.foldl_cons, this, Nat.mul_zero, Nat.zero_add]; rfl
theorem byteOf_toNat (c : Int) (h : 0 ≤ c ∧ c < 256) : ((byteOf c).toNat : Int) = c := by
 unfold byteOf
 have : (UInt8.ofNat c.toNat).toNat = c.toNat := by simp; omega
 rw [this]; omega
theorem vM_valD (T : List Int) (h : dgI T) : ((valD (T.map byteOf) : Nat) : Int) = vM T := by
 induction T with
 | nil => rfl
 | cons c T ih =>
  have hc := h c (by simp)
  have hb := byteOf_toNat c (by omega)
  have := ih (fun d hd => h d (by simp [hd]))
  rw [List.map_cons, valD_cons, List.length_map]
  unfold vM
  rw [← this, Int.natCast_add, Int.natCast_mul, Int.natCast_pow]
  rw [show (((byteOf c).toNat - 48 : Nat) : Int) = c - 48 by omega]
  rfl
theorem map_dg (T : List Int) (h : dgI T) : ∀ b ∈ T.map byteOf, isDg b := by
 intro b hb
 obtain ⟨c, hc, rfl⟩ := List.mem_map.1 hb
 have h1 := h c hc
 have h2 := byteOf_toNat c (by omega)
 unfold isDg; omega
theorem spec_trim_l0 (s : ByteArray) (hs : s.size ≤ 100000) (hd : ∀ b ∈ s.data.toList, isDg b) : ∀ (d i : Nat), s.size - i = d → i + 1 ≤ s.size → valD (s.data.toList.drop i) = valD s.data.toList →
  Ev (fun k => spec_l06Trim.l0 k s (i : Int)) (decN (valD s.data.toList)) := by
 have hl : ∀ (k i : Nat), spec_l06Trim.l0 (k + 1) s (i : Int) = if (wrap64 ((i : Int) + 1)) < (s.size : Int) then (if 0 ≤ (i : Int) then (if (i : Int) < (s.size : Int) then (if (bt s i) = 48 then (spec_l06Trim.l0 k s (wrap64 ((i : Int) + 1))) else (if (s.size : Int) = 0 then (some (⟨#[48]⟩ : ByteArray)) else (if (i : Int) ≤ (s.size : Int) then (some (s.extract (i : Int).toNat s.size)) else (none)))) else (none)) else (none)) else (if (s.size : Int) = 0 then (some (⟨#[48]⟩ : ByteArray)) else (if 0 ≤ (i : Int) then (if (i : Int) ≤ (s.size : Int) then (some (s.extract (i : Int).toNat s.size)) else (none)) else (none))) := fun _ _ => rfl
 have hend : ∀ i : Nat, i + 1 ≤ s.size → valD (s.data.toList.drop i) = valD s.data.toList → (i + 1 < s.size → bt s i ≠ 48) → s.extract i s.size = decN (valD s.data.toList) := by
  intro i hi hv hb
  have hdat : (s.extract i s.size).data.toList = s.data.toList.drop i := by
   simp
   exact List.take_of_length_le (by rw [List.length_drop, size_data]; omega)
  have hsz : (s.extract i s.size).size = s.size - i := by simp
  rw [← hv, ← hdat]
  refine (decN_of (s.extract i s.size) ?_ (by omega) ?_).symm
  ·rw [hdat]; intro b hb2; exact hd b (List.mem_of_mem_drop hb2)
  ·intro ⟨h1, h2⟩
   have h3 := bt_list (s.extract i s.size) 0 (by omega)
   have h4 := bt_list s i (by omega)
   have h5 : (s.extract i s.size).data.toList[0]'(by rw [size_data]; omega) = s.data.toList[i]'(by rw [size_data]; omega) := by
    simp only [hdat]
    rw [List.getElem_drop]; rfl
   rw [h5, ← h4] at h3
   have h6 : bt (s.extract i s.size) ((0 : Nat) : Int) = 48 := h1
   rw [h6] at h3
   exact hb (by omega) h3.symm
 intro d
 induction d with
 | zero => intro i hd2 hi; omega
 | succ d ih =>
  intro i hd2 hi hv
  by_cases h1 : i + 1 < s.size
  ·by_cases hb : bt s i = 48
   ·have hdr := List.drop_eq_getElem_cons (l := s.data.toList) (i := i) (by rw [size_data]; omega)
    have hbi := bt_list s i (by omega)
    have hv2 : valD (s.data.toList.drop (i + 1)) = valD s.data.toList := by
     rw [← hv, hdr, valD_cons]
     have : (s.data.toList[i]'(by rw [size_data]; omega)).toNat = 48 := by omega
     rw [this]; simp
    exact Ev.step (fun k => by rw [hl, w64s (by omega), if_pos (by omega), if_pos (by omega), if_pos (by omega), if_pos hb]) (ih (i + 1) (by omega) (by omega) hv2)
   ·rw [← hend i hi hv (fun _ => hb)]
    exact Ev.step (f := fun _ => some (s.extract i s.size)) (fun k => by rw [hl, w64s (by omega), if_pos (by omega), if_pos (by omega), if_pos (by omega), if_neg hb, if_neg (by omega), if_pos (by omega), Int.toNat_natCast]) (Ev.now _)
  ·rw [← hend i hi hv (fun h => absurd h h1)]
   exact Ev.step (f := fun _ => some (s.extract i s.size)) (fun k => by rw [hl, w64s (by omega), if_neg (by omega), if_neg (by omega), if_pos (by omega), if_pos (by omega), Int.toNat_natCast]) (Ev.now _)
theorem spec_trim (s : ByteArray) (hs : s.size ≤ 100000) (hd : ∀ b ∈ s.data.toList, isDg b) : Ev (fun k => spec_l06Trim.f k s) (decN (valD s.data.toList)) := by
 unfold spec_l06Trim.f
 by_cases h0 : s.size = 0
 ·have hnil : s.data.toList = [] := List.eq_nil_of_length_eq_zero (by rw [size_data]; exact h0)
  rw [hnil]
  exact Ev.step (f := fun _ => some (⟨#[48]⟩ : ByteArray)) (fun k => by simp only [spec_l06Trim.l0]; rw [w64 (by omega) (by omega), if_neg (by omega), if_pos (by omega)]) (Ev.now _)
 ·exact spec_trim_l0 s hs hd s.size 0 (by omega) (by omega) (by simp)
def E9 : Int := 1000000000
theorem e9 (i : Nat) : E9 ^ i = 10 ^ (9 * i) := by
 have : E9 = 10 ^ 9 := rfl
 rw [this, ← Int.pow_mul]
theorem spec_text_l1 (L : List Int) (hL : L.length ≤ 10000) (i : Nat) (hi : i < L.length) (r : ByteArray) : ∀ (d k : Nat) (x : Int) (T : List Int), 9 - k = d → k ≤ 9 → T.length = 9 * i + k → dgI T → 0 ≤ x → x < 10 ^ (9 - k) →
  (∀ T' : List Int, T'.length = 9 * (i + 1) → dgI T' → vM T' = vM T + 10 ^ (9 * i + k) * x → Ev (fun n => spec_l06Text.l0 n L (List.replicate (9 * L.length - 9 * (i + 1)) 0 ++ T') ((i + 1 : Nat) : Int)) r) →
  Ev (fun n => spec_l06Text.l1 n L (List.replicate (9 * L.length - (9 * i + k)) 0 ++ T) (i : Int) x (k : Int)) r := by
 intro d
 induction d with
 | zero =>
  intro k x T hd hk hT hT2 hx0 hx1 hc
  obtain rfl : k = 9 := by omega
  have hx : x = 0 := by
   have : (10 : Int) ^ (9 - 9) = 1 := rfl
   omega
  subst hx
  refine Ev.step (fun n => ?_) (hc T (by omega) hT2 (by omega))
  simp only [spec_l06Text.l1]
  rw [if_neg (by omega), w64s (by omega), show 9 * i + 9 = 9 * (i + 1) by omega]
 | succ d ih =>
  intro k x T hd hk hT hT2 hx0 hx1 hc
  have hpw : (10 : Int) ^ (9 - k) = 10 * 10 ^ (9 - (k + 1)) := by
   rw [show 9 - k = (9 - (k + 1)) + 1 by omega, Int.pow_succ, Int.mul_comm]
  have hx9 : x < 1000000000 := by
   have h1 : (10 : Int) ^ (9 - k) ≤ 10 ^ 9 := by
    rw [show (10 : Int) ^ (9 - k) = ((10 ^ (9 - k) : Nat) : Int) by rw [Int.natCast_pow]; rfl]
    have := Nat.pow_le_pow_right (n := 10) (by omega) (show 9 - k ≤ 9 by omega)
    have h2 : (10 : Int) ^ 9 = 1000000000 := rfl
    omega
   have h2 : (10 : Int) ^ 9 = 1000000000 := rfl
   omega
  have h' := ih (k + 1) (x / 10) ((48 + x % 10) :: T) (by omega) (by omega) (by simp; omega) (by
   intro c hcm
   rcases List.mem_cons.1 hcm with e | e
   ·omega
   ·exact hT2 c e) (by omega) (by
   rw [hpw] at hx1
   generalize (10 : Int) ^ (9 - (k + 1)) = q at *
   omega) (by
   intro T' h1 h2 h3
   refine hc T' h1 h2 ?_
   rw [h3]
   simp only [vM]
   rw [hT, show 9 * i + (k + 1) = (9 * i + k) + 1 by omega, Int.pow_succ]
   generalize (10 : Int) ^ (9 * i + k) = q
   have : x = 10 * (x / 10) + x % 10 := by omega
   generalize x / 10 = u at *
   generalize x % 10 = v at *
   subst this
   grind)
  refine Ev.step (fun n => ?_) h'
  have e1 : wrap64 (wrap64 (wrap64 (9 * wrap64 ((L.length : Int) - (i : Int))) - 1) - (k : Int)) = ((9 * L.length - (9 * i + (k + 1)) : Nat) : Int) := by
   rw [w64 (x := (L.length : Int) - (i : Int)) (by omega) (by omega), w64 (x := 9 * ((L.length : Int) - (i : Int))) (by omega) (by omega), w64 (x := 9 * ((L.length : Int) - (i : Int)) - 1) (by omega) (by omega), w64 (by omega) (by omega)]
   omega
  simp only [spec_l06Text.l1]
  rw [if_pos (by omega), e1, if_pos (by omega), if_pos (by simp; omega), tmodN hx0, tdivN hx0, w64 (x := x / 10) (by omega) (by omega), w64 (x := 48 + x % 10) (by omega) (by omega), show (48 + x % 10) % 256 = 48 + x % 10 by omega, w64s (by omega), Int.toNat_natCast,
   show 9 * L.length - (9 * i + k) = (9 * L.length - (9 * i + (k + 1))) + 1 by omega, set_last]
theorem spec_text_l0 (L : List Int) (hL : L.length ≤ 10000) (h9 : ∀ x ∈ L, 0 ≤ x ∧ x < E9) : ∀ (d i : Nat) (T : List Int), L.length - i = d → i ≤ L.length → T.length = 9 * i → dgI T → vM T = valI E9 (L.take i) →
  Ev (fun n => spec_l06Text.l0 n L (List.replicate (9 * L.length - 9 * i) 0 ++ T) (i : Int)) (decN (valI E9 L).toNat) := by
 intro d
 induction d with
 | zero =>
  intro i T hd hi hT hT2 hv
  obtain rfl : i = L.length := by omega
  rw [List.take_of_length_le (by omega)] at hv
  have hz : 9 * L.length - 9 * L.length = 0 := by omega
  have hdg := map_dg T hT2
  rw [← str_data T] at hdg
  have htr := spec_trim (strOfNums T) (by rw [str_size]; omega) hdg
  have hvd := vM_valD T hT2
  rw [str_data, show valD (T.map byteOf) = (valI E9 L).toNat by omega] at htr
  refine Ev.step (fun n => ?_) (Ev.bind htr (Ev.now _))
  simp only [spec_l06Text.l0]
  rw [if_neg (by omega), hz, List.replicate_zero, List.nil_append]
 | succ d ih =>
  intro i T hd hi hT hT2 hv
  have hx := h9 _ (getD_mem L i (by omega))
  have h10 : (10 : Int) ^ (9 - 0) = E9 := rfl
  have h1 := spec_text_l1 L hL i (by omega) (decN (valI E9 L).toNat) 9 0 (L.getD i 0) T rfl (by omega) (by omega) hT2 hx.1 (by rw [h10]; exact hx.2) (by
   intro T' h2 h3 h4
   refine ih (i + 1) T' (by omega) (by omega) h2 h3 ?_
   rw [h4, hv, valI_take_succ E9 L i (by omega), e9]
   rfl)
  refine Ev.step (fun n => ?_) h1
  simp only [spec_l06Text.l0]
  rw [if_pos (by omega), if_pos (by omega), rd_nat]
  rfl
theorem spec_text (L : List Int) (hL : L.length ≤ 10000) (h9 : ∀ x ∈ L, 0 ≤ x ∧ x < E9) : Ev (fun n => spec_l06Text.f n L) (decN (valI E9 L).toNat) := by
 have h := spec_text_l0 L hL h9 L.length 0 [] (by omega) (by omega) rfl (by intro c hc; simp at hc) (by simp [vM, valI])
 unfold spec_l06Text.f
 rw [w64 (x := 9 * (L.length : Int)) (by omega) (by omega), show 9 * (L.length : Int) = ((9 * L.length : Nat) : Int) by omega, Int.toNat_natCast]
 simp only [if_pos (show (0 : Int) ≤ ((9 * L.length : Nat) : Int) by omega), if_pos (show 9 * L.length ≤ 281474976710656 by omega)]
 simpa using h
theorem spec_at (l : List Int) (i : Nat) : spec_l06At.f l (i : Int) = some (l.getD i 0) := by
 unfold spec_l06At.f
 by_cases h : i < l.length
 ·rw [if_neg (by omega), if_pos (by omega), if_pos (by omega), rd_nat]
 ·rw [if_pos (by omega), getD_out l i (by omega)]
theorem valI_take_succ' (B : Int) (l : List Int) (i : Nat) : valI B (l.take (i + 1)) = valI B (l.take i) + B ^ i * l.getD i 0 := by
 by_cases h : i < l.length
 ·exact valI_take_succ B l i h
 ·rw [getD_out l i (by omega), List.take_of_length_le (by omega), List.take_of_length_le (by omega)]
  simp
theorem getD_range (B : Int) (hB : 0 < B) (l : List Int) (h : ∀ x ∈ l, 0 ≤ x ∧ x < B) (i : Nat) : 0 ≤ l.getD i 0 ∧ l.getD i 0 < B := by
 by_cases hi : i < l.length
 ·exact h _ (getD_mem l i hi)
 ·rw [getD_out l i (by omega)]; omega
theorem spec_mul_l1 (A C : List Int) (hA : ∀ x ∈ A, 0 ≤ x ∧ x < E9) (hC : ∀ x ∈ C, 0 ≤ x ∧ x < E9) (hlA : A.length ≤ 5000) (hlC : C.length ≤ 5000) (i : Nat) (hi : i < A.length) (W : Int) :
    ∀ (d k : Nat) (out : List Int) (c : Int), C.length + 1 - k = d → k ≤ C.length + 1 → out.length = A.length + C.length + 1 → (∀ j, 0 ≤ out.getD j 0 ∧ out.getD j 0 < E9) → (0 ≤ c ∧ c < E9) → (k = C.length + 1 → c = 0) → (k ≤ C.length → out.getD (i + C.length) 0 = 0) → (∀ j, i + C.length < j → out.getD j 0 = 0) → valI E9 out + E9 ^ (i + k) * c = W + A.getD i 0 * E9 ^ i * valI E9 (C.take k) →
    ∃ out' : List Int, out'.length = A.length + C.length + 1 ∧ (∀ j, 0 ≤ out'.getD j 0 ∧ out'.getD j 0 < E9) ∧ (∀ j, i + 1 + C.length ≤ j → out'.getD j 0 = 0) ∧ valI E9 out' = W + A.getD i 0 * E9 ^ i * valI E9 C ∧ ∀ r, Ev (fun n => spec_l06Mul.l0 n A C out' ((i + 1 : Nat) : Int)) r → Ev (fun n => spec_l06Mul.l1 n A C out (i : Int) c (k : Int)) r := by
  have hE : E9 = 1000000000 := rfl
  have hl : ∀ (n : Nat) (out : List Int) (c : Int) (k : Nat), spec_l06Mul.l1 (n + 1) A C out (i : Int) c (k : Int) =
      (let body : Option (List Int) := if 0 ≤ (wrap64 ((i : Int) + k)) then (if (wrap64 ((i : Int) + k)) < (out.length : Int) then (if 0 ≤ (i : Int) then (if (i : Int) < (A.length : Int) then ((spec_l06At.f C k).bind fun t114 => (spec_l06Mul.l1 n A C (out.set ((wrap64 ((i : Int) + k)) : Int).toNat (Int.tmod (wrap64 ((wrap64 ((rd out (wrap64 ((i : Int) + k))) + c)) + (wrap64 ((rd A i) * t114)))) 1000000000)) i (wrap64 (Int.tdiv (wrap64 ((wrap64 ((rd out (wrap64 ((i : Int) + k))) + c)) + (wrap64 ((rd A i) * t114)))) 1000000000)) (wrap64 ((k : Int) + 1)))) else (none)) else (none)) else (none)) else (none)
       if (k : Int) < (C.length : Int) then body else (if c > 0 then body else (spec_l06Mul.l0 n A C out (wrap64 ((i : Int) + 1))))) := fun _ _ _ _ => rfl
  intro d
  have hstop : ∀ (k : Nat) (out : List Int), C.length ≤ k → k ≤ C.length + 1 → out.length = A.length + C.length + 1 → (∀ j, 0 ≤ out.getD j 0 ∧ out.getD j 0 < E9) → (k ≤ C.length → out.getD (i + C.length) 0 = 0) → (∀ j, i + C.length < j → out.getD j 0 = 0) → valI E9 out + E9 ^ (i + k) * 0 = W + A.getD i 0 * E9 ^ i * valI E9 (C.take k) →
      ∃ out' : List Int, out'.length = A.length + C.length + 1 ∧ (∀ j, 0 ≤ out'.getD j 0 ∧ out'.getD j 0 < E9) ∧ (∀ j, i + 1 + C.length ≤ j → out'.getD j 0 = 0) ∧ valI E9 out' = W + A.getD i 0 * E9 ^ i * valI E9 C ∧ ∀ r, Ev (fun n => spec_l06Mul.l0 n A C out' ((i + 1 : Nat) : Int)) r → Ev (fun n => spec_l06Mul.l1 n A C out (i : Int) 0 (k : Int)) r := by
    intro k out hk hk2 hol ho _ hz hv
    rw [List.take_of_length_le hk, Int.mul_zero, Int.add_zero] at hv
    refine ⟨out, hol, ho, (fun j hj => hz j (by omega)), hv, fun r hr => Ev.step (fun n => ?_) hr⟩
    rw [hl]
    simp only
    rw [if_neg (by omega), if_neg (by omega), w64s (by omega)]
  induction d with
  | zero =>
    intro k out c hd hk hol ho hc hc0 hz1 hz hv
    have hk' : k = C.length + 1 := by omega
    obtain rfl := hc0 hk'
    exact hstop k out (by omega) hk hol ho hz1 hz hv
  | succ d ih =>
    intro k out c hd hk hol ho hc hc0 hz1 hz hv
    by_cases hgo : k < C.length ∨ c > 0
    · have hkC : k ≤ C.length := by
        rcases Nat.lt_or_ge k (C.length + 1) with h | h
        · omega
        · exact absurd (hc0 (by omega)) (by omega)
      have ha := getD_range E9 (by decide) A hA i
      have hb := getD_range E9 (by decide) C hC k
      have hob := ho (i + k)
      have hvC := valI_take_succ' E9 C k
      have hm0 : 0 ≤ A.getD i 0 * C.getD k 0 := Int.mul_nonneg ha.1 hb.1
      have hm1 : A.getD i 0 * C.getD k 0 ≤ 999999999 * 999999999 := by
        have := Int.mul_le_mul (show A.getD i 0 ≤ 999999999 by omega) (show C.getD k 0 ≤ 999999999 by omega) hb.1 (by omega)
        exact this
      generalize hx : out.getD (i + k) 0 + c + A.getD i 0 * C.getD k 0 = x
      have hx0 : 0 ≤ x ∧ x < 1000000000 * 1000000000 := by omega
      have hset := valI_set E9 (x % 1000000000) out (i + k) (by omega)
      have hv' : valI E9 (out.set (i + k) (x % 1000000000)) + E9 ^ (i + (k + 1)) * (x / 1000000000) = W + A.getD i 0 * E9 ^ i * valI E9 (C.take (k + 1)) := by
        rw [hset, hvC, show i + (k + 1) = (i + k) + 1 by omega, Int.pow_succ]
        rw [Int.mul_add]
        have hpa : A.getD i 0 * E9 ^ i * (E9 ^ k * C.getD k 0) = E9 ^ (i + k) * (A.getD i 0 * C.getD k 0) := by
          rw [Int.pow_add]
          generalize E9 ^ i = p
          generalize E9 ^ k = q
          grind
        rw [hpa]
        have hxx : x = 1000000000 * (x / 1000000000) + x % 1000000000 := by omega
        rw [hE] at hv ⊢
        generalize (1000000000 : Int) ^ (i + k) = P at hv ⊢
        have q1 : P * x = P * out.getD (i + k) 0 + P * c + P * (A.getD i 0 * C.getD k 0) := by rw [← hx, Int.mul_add, Int.mul_add]
        have q2 : P * x = 1000000000 * (P * (x / 1000000000)) + P * (x % 1000000000) := by
          conv => lhs; rw [hxx]
          rw [Int.mul_add, Int.mul_left_comm]
        have q3 : P * 1000000000 * (x / 1000000000) = 1000000000 * (P * (x / 1000000000)) := by rw [Int.mul_assoc, Int.mul_left_comm]
        rw [q3, Int.mul_sub]
        omega
      have hset_get : ∀ j, (out.set (i + k) (x % 1000000000)).getD j 0 = if j = i + k then x % 1000000000 else out.getD j 0 := by
        intro j
        by_cases h : j = i + k
        · subst h; rw [if_pos rfl, getD_set_eq _ _ _ (by omega)]
        · rw [if_neg h, getD_set_ne _ _ _ _ (fun h2 => h h2.symm)]
      have h' := ih (k + 1) (out.set (i + k) (x % 1000000000)) (x / 1000000000) (by omega) (by omega) (by simp; omega) (by
        intro j
        rw [hset_get]
        split
        · omega
        · exact ho j) (by omega) (by
        intro hk1
        have hkc : k = C.length := by omega
        have h0 : C.getD k 0 = 0 := getD_out C k (by omega)
        have h1 : out.getD (i + k) 0 = 0 := by rw [hkc]; exact hz1 (by omega)
        rw [h0, h1, Int.mul_zero] at hx
        omega) (by
        intro hk1
        rw [hset_get, if_neg (by omega)]
        exact hz1 (by omega)) (by
        intro j hj
        rw [hset_get, if_neg (by omega)]
        exact hz j hj) hv'
      obtain ⟨out', p1, p2, p3, p4, p5⟩ := h'
      refine ⟨out', p1, p2, p3, p4, fun r hr => Ev.step (fun n => ?_) (p5 r hr)⟩
      rw [hl]
      simp only
      clear hv' hset hvC hv hstop ih hset_get p2 p3 p4 p5 hr ho hz
      have f1 : (0 : Int) ≤ ((i + k : Nat) : Int) := by omega
      have f2 : ((i + k : Nat) : Int) < (out.length : Int) := by omega
      have f3 : (0 : Int) ≤ (i : Int) := by omega
      have f4 : (i : Int) < (A.length : Int) := by omega
      have b1 : -9223372036854775808 ≤ out.getD (i + k) 0 + c ∧ out.getD (i + k) 0 + c < 9223372036854775808 := by omega
      have b2 : -9223372036854775808 ≤ A.getD i 0 * C.getD k 0 ∧ A.getD i 0 * C.getD k 0 < 9223372036854775808 := by omega
      have b3 : -9223372036854775808 ≤ x ∧ x < 9223372036854775808 := by omega
      have b4 : -9223372036854775808 ≤ x / 1000000000 ∧ x / 1000000000 < 9223372036854775808 := by omega
      have b5 : k < 9223372036854775807 := by omega
      have b6 : -9223372036854775808 ≤ (i : Int) + (k : Int) ∧ (i : Int) + (k : Int) < 9223372036854775808 := by omega
      have g1 : (k : Int) < (C.length : Int) ∨ (¬ (k : Int) < (C.length : Int) ∧ c > 0) := by omega
      have hw : wrap64 ((i : Int) + (k : Int)) = ((i + k : Nat) : Int) := w64 b6.1 b6.2
      have hbody : (if 0 ≤ (wrap64 ((i : Int) + k)) then (if (wrap64 ((i : Int) + k)) < (out.length : Int) then (if 0 ≤ (i : Int) then (if (i : Int) < (A.length : Int) then ((spec_l06At.f C k).bind fun t114 => (spec_l06Mul.l1 n A C (out.set ((wrap64 ((i : Int) + k)) : Int).toNat (Int.tmod (wrap64 ((wrap64 ((rd out (wrap64 ((i : Int) + k))) + c)) + (wrap64 ((rd A i) * t114)))) 1000000000)) i (wrap64 (Int.tdiv (wrap64 ((wrap64 ((rd out (wrap64 ((i : Int) + k))) + c)) + (wrap64 ((rd A i) * t114)))) 1000000000)) (wrap64 ((k : Int) + 1)))) else (none)) else (none)) else (none)) else (none)) = spec_l06Mul.l1 n A C (out.set (i + k) (x % 1000000000)) i (x / 1000000000) ((k + 1 : Nat) : Int) := by
        rw [hw, if_pos f1, if_pos f2, if_pos f3, if_pos f4, spec_at]
        simp only [Option.bind_some]
        rw [rd_nat, rd_nat, w64 b1.1 b1.2, w64 b2.1 b2.2, hx, w64 b3.1 b3.2, tmodN hx0.1, tdivN hx0.1, w64 b4.1 b4.2, w64s b5, Int.toNat_natCast]
      rw [hbody]
      rcases g1 with h3 | h3
      · rw [if_pos h3]
      · rw [if_neg h3.1, if_pos h3.2]
    · obtain rfl : c = 0 := by omega
      exact hstop k out (by omega) hk hol ho hz1 hz hv
theorem spec_mul_l0 (A C : List Int) (hA : ∀ x ∈ A, 0 ≤ x ∧ x < E9) (hC : ∀ x ∈ C, 0 ≤ x ∧ x < E9) (hlA : A.length ≤ 5000) (hlC : C.length ≤ 5000) :
  ∀ (d i : Nat) (out : List Int), A.length - i = d → i ≤ A.length → out.length = A.length + C.length + 1 → (∀ j, 0 ≤ out.getD j 0 ∧ out.getD j 0 < E9) → (∀ j, i + C.length ≤ j → out.getD j 0 = 0) → valI E9 out = valI E9 (A.take i) * valI E9 C →
  ∃ L : List Int, Ev (fun n => spec_l06Mul.l0 n A C out (i : Int)) L ∧ L.length = A.length + C.length + 1 ∧ (∀ j, 0 ≤ L.getD j 0 ∧ L.getD j 0 < E9) ∧ valI E9 L = valI E9 A * valI E9 C := by
 intro d
 induction d with
 | zero =>
  intro i out hd hi hol ho hz hv
  obtain rfl : i = A.length := by omega
  rw [List.take_of_length_le (by omega)] at hv
  exact ⟨out, Ev.step (f := fun _ => some out) (fun n => by simp only [spec_l06Mul.l0]; rw [if_neg (by omega)]) (Ev.now _), hol, ho, hv⟩
 | succ d ih =>
  intro i out hd hi hol ho hz hv
  have hvA := valI_take_succ' E9 A i
  have h9 : (0 : Int) < E9 := by decide
  obtain ⟨out', p1, p2, p3, p4, p5⟩ := spec_mul_l1 A C hA hC hlA hlC i (by omega) (valI E9 (A.take i) * valI E9 C) (C.length + 1) 0 out 0 (by omega) (by omega) hol ho (by omega) (by omega) (fun _ => hz _ (by omega)) (fun j hj => hz j (by omega)) (by rw [hv]; simp [valI])
  obtain ⟨L, h1, h2⟩ := ih (i + 1) out' (by omega) (by omega) p1 p2 (fun j hj => p3 j (by omega)) (by
   rw [p4, hvA, Int.add_mul]
   rw [Int.mul_comm (E9 ^ i)])
  refine ⟨L, ?_, h2⟩
  refine Ev.step (fun n => ?_) (p5 L h1)
  simp only [spec_l06Mul.l0]
  rw [if_pos (by omega)]
  rfl
theorem getD_all (B : Int) (L : List Int) (h : ∀ j, 0 ≤ L.getD j 0 ∧ L.getD j 0 < B) : ∀ x ∈ L, 0 ≤ x ∧ x < B := by
 intro x hx
 obtain ⟨j, hj, rfl⟩ := List.getElem_of_mem hx
 have := h j
 rw [List.getD_eq_getElem?_getD, List.getElem?_eq_getElem hj] at this
 exact this
theorem spec_mul (A C : List Int) (hA : ∀ x ∈ A, 0 ≤ x ∧ x < E9) (hC : ∀ x ∈ C, 0 ≤ x ∧ x < E9) (hlA : A.length ≤ 5000) (hlC : C.length ≤ 5000) :
  ∃ L : List Int, Ev (fun n => spec_l06Mul.f n A C) L ∧ L.length = A.length + C.length + 1 ∧ (∀ x ∈ L, 0 ≤ x ∧ x < E9) ∧ valI E9 L = valI E9 A * valI E9 C := by
 have h9 : (0 : Int) < E9 := by decide
 obtain ⟨L, h1, h2, h3, h4⟩ := spec_mul_l0 A C hA hC hlA hlC A.length 0 (List.replicate (A.length + C.length + 1) 0) (by omega) (by omega) (by simp) (fun j => by rw [getD_zeros]; omega) (fun j _ => getD_zeros _ _) (by rw [valI_zeros]; simp [valI])
 refine ⟨L, ?_, h2, getD_all E9 L h3, h4⟩
 unfold spec_l06Mul.f
 rw [w64 (x := (A.length : Int) + (C.length : Int)) (by omega) (by omega), w64 (x := (A.length : Int) + (C.length : Int) + 1) (by omega) (by omega), show (A.length : Int) + (C.length : Int) + 1 = ((A.length + C.length + 1 : Nat) : Int) by omega, Int.toNat_natCast]
 simp only [if_pos (show (0 : Int) ≤ ((A.length + C.length + 1 : Nat) : Int) by omega), if_pos (show A.length + C.length + 1 ≤ 35184372088832 by omega)]
 exact h1
theorem spec_in (a b c : Int) : spec_l01In.f a b c = some (decide (b ≤ a ∧ a ≤ c)) := by
 unfold spec_l01In.f
 by_cases h : a ≥ b
 ·rw [if_pos h]; simp; omega
 ·rw [if_neg h]; simp; omega
theorem spec_short_l0 (L : List Int) (hl : L.length ≤ 100000) (h9 : ∀ x ∈ L, 0 ≤ x ∧ x < E9) : ∀ n : Nat, n ≤ L.length → valI E9 (L.take n) = valI E9 L →
  ∃ L' : List Int, Ev (fun k => spec_l06Short.l0 k L (n : Int)) L' ∧ L'.length ≤ L.length ∧ (∀ x ∈ L', 0 ≤ x ∧ x < E9) ∧ valI E9 L' = valI E9 L := by
 have hr : ∀ (k n : Nat), spec_l06Short.l0 (k + 1) L (n : Int) = if (n : Int) > 1 then (if 0 ≤ (wrap64 ((n : Int) - 1)) then (if (wrap64 ((n : Int) - 1)) < (L.length : Int) then (if (rd L (wrap64 ((n : Int) - 1))) = 0 then (spec_l06Short.l0 k L (wrap64 ((n : Int) - 1))) else (if 0 ≤ (n : Int) then (if (n : Int) ≤ (L.length : Int) then (some (L.take (n : Int).toNat)) else (none)) else (none))) else (none)) else (none)) else (if 0 ≤ (n : Int) then (if (n : Int) ≤ (L.length : Int) then (some (L.take (n : Int).toNat)) else (none)) else (none)) := fun _ _ => rfl
 intro n
 induction n with
 | zero =>
  intro hn hv
  refine ⟨L.take 0, ?_, by simp, by simp, hv⟩
  exact Ev.step (f := fun _ => some (L.take 0)) (fun k => by rw [hr, if_neg (by omega), if_pos (by omega), if_pos (by omega)]; rfl) (Ev.now _)
 | succ n ih =>
  intro hn hv
  have hend : (L.take (n + 1)).length ≤ L.length ∧ (∀ x ∈ L.take (n + 1), 0 ≤ x ∧ x < E9) ∧ valI E9 (L.take (n + 1)) = valI E9 L :=
   ⟨by rw [List.length_take]; omega, fun x hx => h9 x (List.mem_of_mem_take hx), hv⟩
  have f1 : (0 : Int) ≤ ((n + 1 : Nat) : Int) := by omega
  have f2 : ((n + 1 : Nat) : Int) ≤ (L.length : Int) := by omega
  by_cases h1 : 1 < n + 1
  ·have e : wrap64 (((n + 1 : Nat) : Int) - 1) = (n : Int) := by rw [w64 (by omega) (by omega)]; omega
   have f3 : ((n + 1 : Nat) : Int) > 1 := by omega
   have f4 : (0 : Int) ≤ (n : Int) := by omega
   have f5 : (n : Int) < (L.length : Int) := by omega
   by_cases h0 : L.getD n 0 = 0
   ·have hv2 : valI E9 (L.take n) = valI E9 L := by
     rw [← hv, valI_take_succ E9 L n (by omega), h0, Int.mul_zero, Int.add_zero]
    obtain ⟨L', h2, h3⟩ := ih (by omega) hv2
    exact ⟨L', Ev.step (fun k => by rw [hr, if_pos f3, e, if_pos f4, if_pos f5, rd_nat, if_pos h0]) h2, h3⟩
   ·exact ⟨_, Ev.step (f := fun _ => some (L.take (n + 1))) (fun k => by rw [hr, if_pos f3, e, if_pos f4, if_pos f5, rd_nat, if_neg h0, if_pos f1, if_pos f2]; rfl) (Ev.now _), hend⟩
  ·exact ⟨_, Ev.step (f := fun _ => some (L.take (n + 1))) (fun k => by rw [hr, if_neg (by omega), if_pos f1, if_pos f2]; rfl) (Ev.now _), hend⟩
theorem spec_short (L : List Int) (hl : L.length ≤ 100000) (h9 : ∀ x ∈ L, 0 ≤ x ∧ x < E9) :
  ∃ L' : List Int, Ev (fun k => spec_l06Short.f k L) L' ∧ L'.length ≤ L.length ∧ (∀ x ∈ L', 0 ≤ x ∧ x < E9) ∧ valI E9 L' = valI E9 L :=
 spec_short_l0 L hl h9 L.length (Nat.le_refl _) (by rw [List.take_of_length_le (Nat.le_refl _)])
theorem spec_mulShort (A C : List Int) (hA : ∀ x ∈ A, 0 ≤ x ∧ x < E9) (hC : ∀ x ∈ C, 0 ≤ x ∧ x < E9) (hlA : A.length ≤ 5000) (hlC : C.length ≤ 5000) :
  ∃ L L' : List Int, Ev (fun n => spec_l06Mul.f n A C) L ∧ Ev (fun k => spec_l06Short.f k L) L' ∧ L'.length ≤ A.length + C.length + 1 ∧ (∀ x ∈ L', 0 ≤ x ∧ x < E9) ∧ valI E9 L' = valI E9 A * valI E9 C := by
 obtain ⟨L, h1, h2, h3, h4⟩ := spec_mul A C hA hC hlA hlC
 obtain ⟨L', g1, g2, g3, g4⟩ := spec_short L (by omega) h3
 exact ⟨L, L', h1, g1, by omega, g3, by rw [g4, h4]⟩
theorem power_odd (k e : Nat) (A C : List Int) (h : e % 2 = 1) (h2 : e < 9223372036854775808) : spec_l06Power.l0 (k + 1) (e : Int) A C = (spec_l06Mul.f k A C).bind fun t132 => ((spec_l06Short.f k t132).bind fun t135 => ((spec_l06Mul.f k C C).bind fun t138 => ((spec_l06Short.f k t138).bind fun t141 => (spec_l06Power.l0 k ((e / 2 : Nat) : Int) t135 t141)))) := by
 simp only [spec_l06Power.l0]
 rw [if_pos (by omega), tmodN (by omega), if_pos (by omega), tdivN (by omega), w64 (by omega) (by omega)]
 rfl
theorem power_even (k e : Nat) (A C : List Int) (h : ¬ e % 2 = 1) (h0 : e ≠ 0) (h2 : e < 9223372036854775808) : spec_l06Power.l0 (k + 1) (e : Int) A C = (spec_l06Mul.f k C C).bind fun t144 => ((spec_l06Short.f k t144).bind fun t147 => (spec_l06Power.l0 k ((e / 2 : Nat) : Int) A t147)) := by
 simp only [spec_l06Power.l0]
 rw [if_pos (by omega), tmodN (by omega), if_neg (by omega), tdivN (by omega), w64 (by omega) (by omega)]
 rfl
theorem power_end (k : Nat) (A C : List Int) : spec_l06Power.l0 (k + 1) ((0 : Nat) : Int) A C = some A := by
 simp only [spec_l06Power.l0]
 rw [if_neg (by omega)]
theorem sq_pow (v : Int) (q : Nat) : (v * v) ^ q = v ^ (2 * q) := by
 have h2 : v ^ 2 = v * v := by simp [Int.pow_succ]
 rw [Int.pow_mul, h2]
theorem power_room (m d : Nat) (hm : (m + 1) * 2 ^ (d + 1) ≤ 4096) : (2 * m + 1 + 1) * 2 ^ d ≤ 4096 ∧ 2 * m + 2 ≤ 4096 ∧ 2 ^ d ≤ 4096 := by
 have hm1 : (m + 1) * 2 ^ (d + 1) = (2 * m + 1 + 1) * 2 ^ d := by rw [Nat.pow_succ, show 2 * m + 1 + 1 = (m + 1) * 2 by omega, Nat.mul_assoc, Nat.mul_comm 2]
 rw [hm1] at hm
 have hp : 1 ≤ 2 ^ d := Nat.one_le_two_pow
 have h1 := Nat.mul_le_mul_left (2 * m + 1 + 1) hp
 have h2 := Nat.mul_le_mul_right (2 ^ d) (show 1 ≤ 2 * m + 1 + 1 by omega)
 rw [Nat.mul_one] at h1
 rw [Nat.one_mul] at h2
 exact ⟨hm, Nat.le_trans h1 hm, Nat.le_trans h2 hm⟩
theorem half_lt (e d : Nat) (h : e < 2 ^ (d + 1)) : e / 2 < 2 ^ d := by
 rw [Nat.pow_succ] at h
 omega
theorem spec_power_l0 : ∀ (d e m : Nat) (A C : List Int), e < 2 ^ d → (m + 1) * 2 ^ d ≤ 4096 → A.length ≤ m → C.length ≤ m → m ≤ 4096 → e ≤ 4096 → (∀ x ∈ A, 0 ≤ x ∧ x < E9) → (∀ x ∈ C, 0 ≤ x ∧ x < E9) →
  ∃ L : List Int, Ev (fun k => spec_l06Power.l0 k (e : Int) A C) L ∧ L.length ≤ 4096 ∧ (∀ x ∈ L, 0 ≤ x ∧ x < E9) ∧ valI E9 L = valI E9 A * valI E9 C ^ e := by
 intro d
 induction d with
 | zero =>
  intro e m A C he _ hlA hlC hm4 _ hA hC
  obtain rfl : e = 0 := by rw [Nat.pow_zero] at he; omega
  exact ⟨A, Ev.step (f := fun _ => some A) (fun k => power_end k A C) (Ev.now _), Nat.le_trans hlA hm4, hA, by rw [Int.pow_zero, Int.mul_one]⟩
 | succ d ih =>
  intro e m A C he hm hlA hlC hm4 he4 hA hC
  by_cases h0 : e = 0
  ·subst h0
   exact ⟨A, Ev.step (f := fun _ => some A) (fun k => power_end k A C) (Ev.now _), Nat.le_trans hlA hm4, hA, by rw [Int.pow_zero, Int.mul_one]⟩
  ·obtain ⟨r1, r2, _⟩ := power_room m d hm
   have he2 := half_lt e d he
   clear he hm
   have e64 : e < 9223372036854775808 := by omega
   have l1 : A.length ≤ 5000 := by omega
   have l2 : C.length ≤ 5000 := by omega
   obtain ⟨S, S', s1, s2, s3, s4, s5⟩ := spec_mulShort C C hC hC l2 l2
   have ls : S'.length ≤ 2 * m + 1 := by omega
   have l5 : 2 * m + 1 ≤ 4096 := by omega
   have l6 : e / 2 ≤ 4096 := by omega
   by_cases h1 : e % 2 = 1
   ·obtain ⟨T, T', t1, t2, t3, t4, t5⟩ := spec_mulShort A C hA hC l1 l2
    obtain ⟨L, g1, g2, g3, g4⟩ := ih (e / 2) (2 * m + 1) T' S' he2 r1 (by omega) ls l5 l6 t4 s4
    refine ⟨L, Ev.step (fun k => power_odd k e A C h1 e64) (Ev.bind t1 (Ev.bind t2 (Ev.bind s1 (Ev.bind s2 g1)))), g2, g3, ?_⟩
    have hh : e = 2 * (e / 2) + 1 := by omega
    rw [g4, s5, t5, sq_pow]
    have e1 : valI E9 C ^ e = valI E9 C ^ (2 * (e / 2)) * valI E9 C := by
     conv => lhs; rw [hh]
     rw [Int.pow_succ]
    rw [e1, Int.mul_assoc, Int.mul_comm (valI E9 C ^ _)]
   ·obtain ⟨L, g1, g2, g3, g4⟩ := ih (e / 2) (2 * m + 1) A S' he2 r1 (by omega) ls l5 l6 hA s4
    refine ⟨L, Ev.step (fun k => power_even k e A C h1 h0 e64) (Ev.bind s1 (Ev.bind s2 g1)), g2, g3, ?_⟩
    rw [g4, s5, sq_pow, show 2 * (e / 2) = e by omega]
theorem spec_power (b e : Nat) (hb : b ≤ 10) (he : e ≤ 1100) : ∃ L : List Int, Ev (fun k => spec_l06Power.f k (b : Int) (e : Int)) L ∧ L.length ≤ 4096 ∧ (∀ x ∈ L, 0 ≤ x ∧ x < E9) ∧ valI E9 L = ((b ^ e : Nat) : Int) := by
 have hE : E9 = 1000000000 := rfl
 obtain ⟨L, h1, h2, h3, h4⟩ := spec_power_l0 11 e 1 [1] [(b : Int)] (Nat.lt_of_le_of_lt he (by decide)) (by decide) (by simp) (by simp) (by omega) (by omega) (by simp [hE]) (by simp [hE]; omega)
 refine ⟨L, h1, h2, h3, ?_⟩
 rw [h4]
 simp [valI]
theorem spec_fits (v : Nat) : spec_l06Fits.f (decN v) = some (fitsT v) := by
 unfold spec_l06Fits.f fitsT
 by_cases h : (decN v).size ≤ 800
 ·rw [if_neg (by omega), if_pos h]
 ·rw [if_pos (by omega), if_neg h]
theorem ev_const {α : Type} {x : Option α} {r : α} (h : x = some r) : Ev (fun _ => x) r := by rw [h]; exact Ev.now r
theorem ev_if {α : Type} {c : Prop} [Decidable c] {f g : Nat → Option α} {r : α} (h : c) (k : Ev f r) : Ev (fun n => if c then f n else g n) r := Ev.congr (fun _ => if_pos h) k
theorem ev_else {α : Type} {c : Prop} [Decidable c] {f g : Nat → Option α} {r : α} (h : ¬ c) (k : Ev g r) : Ev (fun n => if c then f n else g n) r := Ev.congr (fun _ => if_neg h) k
theorem decN_far (v : Nat) (h : 10 ≤ v) : (decN v).data.toList = (decN (v / 10)).data.toList ++ [UInt8.ofNat (48 + v % 10)] := by
 rw [decN_data, decN_data, if_neg (by omega), if_neg (by omega), dgL_pos v (by omega)]
theorem decN_ext {a b : ByteArray} (h : a.data.toList = b.data.toList) : a = b := by
 cases a; cases b
 congr 1
 exact Array.toList_inj.1 h
theorem decN_one (v : Nat) (h : v < 10) : (decN v).size = 1 := by
 have h1 := decN_pos v
 have h2 := (decN_size v 1 (by omega)).2 (by omega)
 omega
theorem decN_more (v : Nat) (h : 10 ≤ v) : 1 < (decN v).size := by
 rcases Nat.lt_or_ge 1 (decN v).size with h1 | h1
 ·exact h1
 ·have := (decN_size v 1 (by omega)).1 h1; omega
theorem decN_last (v : Nat) (h : 10 ≤ v) : bt (decN v) (((decN v).size - 1 : Nat) : Int) = 48 + ((v % 10 : Nat) : Int) := by
 have h1 := decN_more v h
 rw [bt_list (decN v) ((decN v).size - 1) (by omega)]
 have hd := decN_far v h
 have hl : (decN (v / 10)).data.toList.length = (decN v).size - 1 := by
  have := congrArg List.length hd
  rw [List.length_append, size_data] at this
  simp at this
  rw [size_data]
  omega
 have he : (decN v).data.toList[(decN v).size - 1]? = some (UInt8.ofNat (48 + v % 10)) := by
  rw [hd, List.getElem?_append_right (by omega), hl, Nat.sub_self]; rfl
 rw [List.getElem?_eq_getElem (by rw [size_data]; omega)] at he
 rw [Option.some.inj he]
 have : (UInt8.ofNat (48 + v % 10)).toNat = 48 + v % 10 := by simp; omega
 rw [this]; omega
theorem decN_cut (v : Nat) (h : 10 ≤ v) : (decN v).extract 0 ((decN v).size - 1) = decN (v / 10) := by
 apply decN_ext
 have hd := decN_far v h
 have hl : (decN (v / 10)).data.toList.length = (decN v).size - 1 := by
  have := congrArg List.length hd
  rw [List.length_append, size_data] at this
  simp at this
  rw [size_data]
  omega
 rw [ByteArray.data_extract, Array.toList_extract, List.extract_eq_take_drop, List.drop_zero, Nat.sub_zero, hd, List.take_left' hl]
theorem exact_l0 : ∀ (n v : Nat) (e : Int), v ≤ n → v ≠ 0 → (decN v).size ≤ 5000 → -5000 ≤ e → e ≤ 10000 - (decN v).size → ∃ (u j : Nat), v = u * 10 ^ j ∧ u % 10 ≠ 0 ∧ Ev (fun k => spec_Exact.l0 k e (decN v)) (decN u, e + j) := by
 have hl : ∀ (k : Nat) (e : Int) (s : ByteArray), spec_Exact.l0 (k + 1) e s = if (s.size : Int) > 1 then (if 0 ≤ (wrap64 ((s.size : Int) - 1)) then (if (wrap64 ((s.size : Int) - 1)) < (s.size : Int) then (if (bt s (wrap64 ((s.size : Int) - 1))) = 48 then (if (wrap64 ((s.size : Int) - 1)) ≤ (s.size : Int) then (spec_Exact.l0 k (wrap64 (e + 1)) (s.extract 0 ((wrap64 ((s.size : Int) - 1)) : Int).toNat)) else (none)) else (some (s, e))) else (none)) else (none)) else (some (s, e)) := fun _ _ _ => rfl
 intro n
 induction n with
 | zero => intro v e h1 h2; omega
 | succ n ih =>
  intro v e h1 h2 hs he he2
  by_cases h10 : v < 10
  ·have h3 := decN_one v h10
   refine ⟨v, 0, by rw [Nat.pow_zero, Nat.mul_one], by omega, ?_⟩
   rw [show e + ((0 : Nat) : Int) = e by omega]
   exact Ev.step (fun k => hl k e _) (ev_else (by omega) (Ev.now _))
  ·have h3 := decN_more v (by omega)
   have h4 := decN_last v (by omega)
   have h5 := decN_cut v (by omega)
   have hw : wrap64 (((decN v).size : Int) - 1) = (((decN v).size - 1 : Nat) : Int) := by rw [w64 (by omega) (by omega)]; omega
   by_cases h0 : v % 10 = 0
   ·have hsz : (decN (v / 10)).size + 1 = (decN v).size := by
     have := congrArg List.length (decN_far v (by omega))
     rw [List.length_append, size_data, size_data] at this
     simp at this
     omega
    obtain ⟨u, j, q1, q2, q3⟩ := ih (v / 10) (e + 1) (by omega) (by omega) (by omega) (by omega) (by omega)
    refine ⟨u, j + 1, by rw [Nat.pow_succ, ← Nat.mul_assoc, ← q1]; omega, q2, ?_⟩
    rw [show e + ((j + 1 : Nat) : Int) = e + 1 + (j : Int) by omega]
    refine Ev.step (fun k => hl k e _) ?_
    rw [hw, Int.toNat_natCast, h5, h4, h0, w64 (x := e + 1) (by omega) (by omega)]
    exact ev_if (by omega) (ev_if (by omega) (ev_if (by omega) (ev_if rfl (ev_if (by omega) q3))))
   ·refine ⟨v, 0, by rw [Nat.pow_zero, Nat.mul_one], h0, ?_⟩
    rw [show e + ((0 : Nat) : Int) = e by omega]
    refine Ev.step (fun k => hl k e _) ?_
    rw [hw, h4]
    exact ev_if (by omega) (ev_if (by omega) (ev_if (by omega) (ev_else (by omega) (Ev.now _))))
theorem ten_cancel {a b j n m : Nat} (h : a * 5 ^ n = b * 10 ^ j) (hj : (j : Int) - n = m) : a = b * 10 ^ m * 2 ^ n := by
 have e : 10 ^ j = 10 ^ m * (2 ^ n * 5 ^ n) := by rw [← Nat.mul_pow, ← Nat.pow_add]; congr 1; omega
 have h5 : 0 < 5 ^ n := Nat.pow_pos (by omega)
 apply Nat.eq_of_mul_eq_mul_right h5
 rw [h, e]; ac_rfl
theorem ten_cancel2 {a b j n m : Nat} (h : a * 5 ^ n = b * 10 ^ j) (hj : (n : Int) - j = m) : b * 2 ^ n = a * 10 ^ m := by
 have e : 2 ^ n * 5 ^ n = 10 ^ m * 10 ^ j := by rw [← Nat.mul_pow, ← Nat.pow_add]; congr 1; omega
 have h5 : 0 < 10 ^ j := Nat.pow_pos (by omega)
 apply Nat.eq_of_mul_eq_mul_right h5
 calc b * 2 ^ n * 10 ^ j = b * 10 ^ j * 2 ^ n := by ac_rfl
  _ = a * 5 ^ n * 2 ^ n := by rw [h]
  _ = a * (2 ^ n * 5 ^ n) := by ac_rfl
  _ = a * 10 ^ m * 10 ^ j := by rw [e]; ac_rfl
theorem two_ten (k : Nat) : 2 ^ k ≤ 10 ^ (k / 3 + 1) := by
 have h1 : 2 ^ k ≤ 2 ^ (3 * (k / 3 + 1)) := Nat.pow_le_pow_right (by omega) (by omega)
 have h2 : 2 ^ (3 * (k / 3 + 1)) ≤ 10 ^ (k / 3 + 1) := by rw [Nat.pow_mul]; exact Nat.pow_le_pow_left (by decide) _
 exact Nat.le_trans h1 h2
theorem exact_room {M a b n : Nat} (hM : M < 9007199254740992) (hb : b ≤ 10 ^ n) (hb0 : 0 < b) (ha : a = M * b) : a < 10 ^ (16 + n) := by
 have h1 : M * b < 10000000000000000 * b := Nat.mul_lt_mul_of_pos_right (by omega) hb0
 have h2 : 10000000000000000 * b ≤ 10000000000000000 * 10 ^ n := Nat.mul_le_mul_left _ hb
 rw [ha, Nat.pow_add]
 exact Nat.lt_of_lt_of_le h1 h2
theorem exact_figs {V : Nat} (n : Nat) (g : Int) (hV : V ≠ 0) (hroom : V < 10 ^ (16 + n)) (hn : n ≤ 1100) (hg1 : -1074 ≤ g) (hg2 : g ≤ 0) :
  ∃ (u j : Nat), Ev (fun k => spec_Exact.l0 k g (decN V)) (decN u, g + j) ∧ u % 10 ≠ 0 ∧ V = u * 10 ^ j ∧ j < 16 + n ∧ (decN u).size ≤ 5000 := by
 have h1 : 1 ≤ 16 + n := by clear hroom; omega
 have hsz := (decN_size V (16 + n) h1).2 hroom
 have hs5 : (decN V).size ≤ 5000 := by clear hroom; omega
 have hg5 : -5000 ≤ g := by clear hroom; omega
 have hg6 : g ≤ 10000 - ((decN V).size : Int) := by clear hroom; omega
 obtain ⟨u, j, q1, q2, q3⟩ := exact_l0 V V g (Nat.le_refl _) hV hs5 hg5 hg6
 have hu : 1 ≤ u := by clear hroom q1 q3; omega
 have hle : u ≤ V := by rw [q1]; exact Nat.le_mul_of_pos_right _ (Nat.pow_pos (by decide))
 refine ⟨u, j, q3, q2, q1, ?_, Nat.le_trans ((decN_size u (16 + n) h1).2 (Nat.lt_of_le_of_lt hle hroom)) ?_⟩
 ·rcases Nat.lt_or_ge j (16 + n) with h | h
  ·exact h
  ·exfalso
   have k1 : 10 ^ (16 + n) ≤ 10 ^ j := Nat.pow_le_pow_right (by decide) h
   have k2 : 1 * 10 ^ j ≤ u * 10 ^ j := Nat.mul_le_mul_right _ hu
   rw [← q1, Nat.one_mul] at k2
   exact absurd (Nat.lt_of_lt_of_le hroom (Nat.le_trans k1 k2)) (Nat.lt_irrefl _)
 ·clear hroom q1 q3; omega
theorem len_room {L P : List Int} {a b : Int} (h : L.length = [a, b].length + P.length + 1) (hp : P.length ≤ 4096) : L.length ≤ 4100 := by
 simp at h
 omega
theorem exact_up {M u n j : Nat} (h : M * 2 ^ n = u * 10 ^ j) : (u * 10 ^ (j : Int).toNat) * 2 ^ (-(n : Int)).toNat = (M * 2 ^ (n : Int).toNat) * 10 ^ (-(j : Int)).toNat := by
 have e1 : (-(n : Int)).toNat = 0 := by clear h; omega
 have e2 : (-(j : Int)).toNat = 0 := by clear h; omega
 rw [e1, e2, Int.toNat_natCast, Int.toNat_natCast, ← h]
theorem exact_down {M u n j : Nat} (h : M * 5 ^ n = u * 10 ^ j) : (u * 10 ^ (-(n : Int) + (j : Int)).toNat) * 2 ^ (- -(n : Int)).toNat = (M * 2 ^ (-(n : Int)).toNat) * 10 ^ (-(-(n : Int) + (j : Int))).toNat := by
 have e1 : (-(n : Int)).toNat = 0 := by clear h; omega
 have e2 : (- -(n : Int)).toNat = n := by clear h; omega
 rw [e1, e2, Nat.pow_zero, Nat.mul_one]
 by_cases hjn : n ≤ j
 ·have hc := ten_cancel h (m := j - n) (by clear h; omega)
  have e3 : (-(n : Int) + (j : Int)).toNat = j - n := by clear h hc; omega
  have e4 : (-(-(n : Int) + (j : Int))).toNat = 0 := by clear h hc; omega
  rw [e3, e4, Nat.pow_zero, Nat.mul_one]
  exact hc.symm
 ·have hc := ten_cancel2 h (m := n - j) (by clear h; omega)
  have e3 : (-(n : Int) + (j : Int)).toNat = 0 := by clear h hc; omega
  have e4 : (-(-(n : Int) + (j : Int))).toNat = n - j := by clear h hc; omega
  rw [e3, e4, Nat.pow_zero, Nat.mul_one]
  exact hc
theorem spec_exact {x M : Nat} {s : Bool} {e : Int} (hx : x < 18446744073709551616) (hr : Ieee.double.read x = .number s M e) (hM : M ≠ 0) (hM2 : M < 9007199254740992) (he1 : -1074 ≤ e) (he2 : e ≤ 971) :
  ∃ (u : Nat) (f : Int), Ev (fun k => spec_Exact.f k (x : Int)) (decN u, f) ∧ u % 10 ≠ 0 ∧ -1074 ≤ f ∧ f ≤ 400 ∧ (u * 10 ^ f.toNat) * 2 ^ (-e).toNat = (M * 2 ^ e.toNat) * 10 ^ (-f).toNat ∧ (decN u).size ≤ 5000 := by
 have hp := parts_some hx hr hM
 have hl9 : ∀ y ∈ ([((M % 1000000000 : Nat) : Int), ((M / 1000000000 : Nat) : Int)] : List Int), 0 ≤ y ∧ y < E9 := by
  intro y hy
  unfold E9
  rcases List.mem_cons.1 hy with h | h
  ·rw [h]; omega
  ·rw [List.mem_singleton.1 h]; omega
 have hv9 : valI E9 [((M % 1000000000 : Nat) : Int), ((M / 1000000000 : Nat) : Int)] = (M : Int) := by
  simp only [valI, E9]; omega
 have hj : ∀ (k : Nat) (L : List Int) (g : Int), spec_Exact.j0 (k + 1) L g = (spec_l06Text.f k L).bind fun t270 => (spec_Exact.l0 k g t270) := fun _ _ _ => rfl
 have w1 : wrap64 (Int.tmod (M : Int) 1000000000) = ((M % 1000000000 : Nat) : Int) := by rw [tmodN (by omega), w64 (by omega) (by omega)]; omega
 have w2 : wrap64 (IntKind.u64.wrap (Int.tdiv (M : Int) 1000000000)) = ((M / 1000000000 : Nat) : Int) := by rw [tdivN (by omega), wu64, Int.emod_eq_of_lt (by omega) (by omega), w64 (by omega) (by omega)]; omega
 have hl2 : (some [wrap64 (Int.tmod (M : Int) 1000000000), wrap64 (IntKind.u64.wrap (Int.tdiv (M : Int) 1000000000))] : Option (List Int)) = some [((M % 1000000000 : Nat) : Int), ((M / 1000000000 : Nat) : Int)] := by rw [w1, w2]
 -- from the limbs on
 have key : ∀ (b n : Nat) (L : List Int) (g : Int), b ≠ 0 → b ≤ 10 ^ n → n ≤ 1100 → -1074 ≤ g → g ≤ 0 → L.length ≤ 4100 → (∀ y ∈ L, 0 ≤ y ∧ y < E9) → valI E9 L = ((M * b : Nat) : Int) →
   ∃ (u j : Nat), Ev (fun k => spec_Exact.j0 k L g) (decN u, g + j) ∧ u % 10 ≠ 0 ∧ M * b = u * 10 ^ j ∧ j < 16 + n ∧ (decN u).size ≤ 5000 := by
  intro b n L g hb0 hb hn hg1 hg2 hLl hL9 hLv
  have hL1 : L.length ≤ 10000 := Nat.le_trans hLl (by omega)
  have ht := spec_text L hL1 hL9
  rw [hLv, Int.toNat_natCast] at ht
  obtain ⟨u, j, q1, q2, q3, q4, q5⟩ := exact_figs n g (Nat.mul_ne_zero hM hb0) (exact_room hM2 hb (Nat.pos_of_ne_zero hb0) rfl) hn hg1 hg2
  exact ⟨u, j, Ev.step (fun k => hj k L g) (Ev.bind ht q1), q2, q3, q4, q5⟩
 by_cases h0 : 0 ≤ e
 ·obtain ⟨n, rfl⟩ : ∃ n : Nat, e = n := ⟨e.toNat, by omega⟩
  have k1 : n ≤ 1100 := by omega
  have k2 : n / 3 + 1 ≤ 1100 := by omega
  have k3 : ∀ j : Nat, j < 16 + (n / 3 + 1) → (-1074 : Int) ≤ (j : Int) ∧ (j : Int) ≤ 400 := by intro j hj; omega
  have k5 : (-1074 : Int) ≤ 0 := by decide
  obtain ⟨P, p1, p2, p3, p4⟩ := spec_power 2 n (by decide) k1
  obtain ⟨L, l1, l2, l3, l4⟩ := spec_mul _ P hl9 p3 (by simp) (Nat.le_trans p2 (by decide))
  rw [hv9, p4, ← Int.natCast_mul] at l4
  obtain ⟨u, j, q1, q2, q3, q4, q5⟩ := key (2 ^ n) (n / 3 + 1) L 0 (Nat.ne_of_gt (Nat.pow_pos (by decide))) (two_ten n) k2 k5 (Int.le_refl _) (len_room l2 p2) l3 l4
  refine ⟨u, j, ?_, q2, (k3 j q4).1, (k3 j q4).2, exact_up q3, q5⟩
  unfold spec_Exact.f
  refine Ev.bind hp (ev_if rfl (Ev.bind (ev_const hl2) ?_))
  rw [Int.zero_add] at q1
  exact ev_if h0 (Ev.bind p1 (Ev.bind l1 q1))
 ·obtain ⟨n, rfl⟩ : ∃ n : Nat, e = -(n : Int) := ⟨e.natAbs, by omega⟩
  have hwn : wrap64 (n : Int) = (n : Int) := w64 (by omega) (by omega)
  have k1 : n ≤ 1100 := by omega
  have k3 : ∀ j : Nat, j < 16 + n → (-1074 : Int) ≤ -(n : Int) + (j : Int) ∧ -(n : Int) + (j : Int) ≤ 400 := by intro j hj; omega
  have k6 : -(n : Int) ≤ 0 := by omega
  obtain ⟨P, p1, p2, p3, p4⟩ := spec_power 5 n (by decide) k1
  obtain ⟨L, l1, l2, l3, l4⟩ := spec_mul _ P hl9 p3 (by simp) (Nat.le_trans p2 (by decide))
  rw [hv9, p4, ← Int.natCast_mul] at l4
  obtain ⟨u, j, q1, q2, q3, q4, q5⟩ := key (5 ^ n) n L (-(n : Int)) (Nat.ne_of_gt (Nat.pow_pos (by decide))) (Nat.pow_le_pow_left (by decide) n) k1 he1 k6 (len_room l2 p2) l3 l4
  refine ⟨u, -(n : Int) + j, ?_, q2, (k3 j q4).1, (k3 j q4).2, exact_down q3, q5⟩
  unfold spec_Exact.f
  refine Ev.bind hp (ev_if rfl (Ev.bind (ev_const hl2) ?_))
  have hw : wrap64 (- -(n : Int)) = (n : Int) := by rw [Int.neg_neg]; exact hwn
  rw [hw]
  exact ev_else h0 (Ev.bind p1 (Ev.bind l1 q1))
def ok32 (l : List Int) : Prop := ∀ x ∈ l, 0 ≤ x ∧ x < (4294967296 : Int)
theorem ok32_nil : ok32 [] := fun _ h => by cases h
theorem ok32_getD {l : List Int} (h : ok32 l) (i : Nat) : 0 ≤ l.getD i 0 ∧ l.getD i 0 < (4294967296 : Int) := by
 by_cases hi : i < l.length
 ·exact h _ (getD_mem l i hi)
 ·rw [getD_out _ _ (by omega)]; decide
theorem ok32_snoc {l : List Int} {x : Int} (h : ok32 l) (h0 : 0 ≤ x) (h1 : x < (4294967296 : Int)) : ok32 (l ++ [x]) := by
 intro y hy
 rcases List.mem_append.1 hy with e | e
 ·exact h y e
 ·rw [List.mem_singleton.1 e]; exact ⟨h0, h1⟩
theorem ok32_take {l : List Int} (h : ok32 l) (n : Nat) : ok32 (l.take n) := fun x hx => h x (List.mem_of_mem_take hx)
theorem ok32_drop {l : List Int} (h : ok32 l) (n : Nat) : ok32 (l.drop n) := fun x hx => h x (List.mem_of_mem_drop hx)
theorem val32 {l : List Int} (h : ok32 l) : 0 ≤ valI (4294967296 : Int) l ∧ valI (4294967296 : Int) l < (4294967296 : Int) ^ l.length := valI_range (4294967296 : Int) (by decide) l h
theorem valI_snoc (B : Int) (l : List Int) (x : Int) : valI B (l ++ [x]) = valI B l + B ^ l.length * x := by rw [valI_append]; simp [valI]
theorem valI_drop (B : Int) (l : List Int) (i : Nat) (h : i < l.length) : valI B (l.drop i) = l.getD i 0 + B * valI B (l.drop (i + 1)) := by
 rw [List.drop_eq_getElem_cons h]; simp [valI, List.getD_eq_getElem?_getD, List.getElem?_eq_getElem h]
theorem b32_pos (n : Nat) : (0 : Int) < (4294967296 : Int) ^ n := Int.pow_pos (by decide)
def tl (l : List Int) : Nat → Nat
 | 0 => 0
 | n + 1 => if l.getD n 0 = 0 then tl l n else n + 1
theorem tl_le (l : List Int) : ∀ n, tl l n ≤ n
  | 0 => Nat.le_refl _
  | n + 1 => by
    unfold tl
    split
    · exact Nat.le_succ_of_le (tl_le l n)
    · exact Nat.le_refl _
theorem tl_top (l : List Int) : ∀ n, tl l n ≠ 0 → l.getD (tl l n - 1) 0 ≠ 0
  | 0 => fun h => absurd rfl h
  | n + 1 => by
    unfold tl
    split
    · exact tl_top l n
    · rename_i h; intro _; simpa using h
theorem tl_val (l : List Int) : ∀ n, n ≤ l.length → valI (4294967296 : Int) (l.take n) = valI (4294967296 : Int) (l.take (tl l n))
  | 0 => fun _ => rfl
  | n + 1 => fun hn => by
    unfold tl
    split
    · rename_i h
      rw [valI_take_succ (4294967296 : Int) l n (by omega), h, Int.mul_zero, Int.add_zero]
      exact tl_val l n (by omega)
    · rfl
def tlen (l : List Int) : Nat := tl l l.length
theorem tlen_le (l : List Int) : tlen l ≤ l.length := tl_le l _
theorem tlen_val (l : List Int) : valI (4294967296 : Int) l = valI (4294967296 : Int) (l.take (tlen l)) := by
 have := tl_val l l.length (Nat.le_refl _)
 rwa [List.take_length] at this
theorem tlen_lt {l : List Int} (h : ok32 l) : valI (4294967296 : Int) l < (4294967296 : Int) ^ tlen l := by
 rw [tlen_val]
 have := (val32 (ok32_take h (tlen l))).2
 rwa [List.length_take, Nat.min_eq_left (tlen_le l)] at this
theorem top_ge {l : List Int} (h : ok32 l) (n : Nat) (hn : n + 1 ≤ l.length) : l.getD n 0 * (4294967296 : Int) ^ n ≤ valI (4294967296 : Int) (l.take (n + 1)) ∧ valI (4294967296 : Int) (l.take (n + 1)) < (l.getD n 0 + 1) * (4294967296 : Int) ^ n := by
 rw [valI_take_succ (4294967296 : Int) l n (by omega)]
 have h1 := val32 (ok32_take h n)
 rw [List.length_take, Nat.min_eq_left (by omega)] at h1
 rw [Int.mul_comm ((4294967296 : Int) ^ n) (l.getD n 0), Int.add_mul, Int.one_mul]
 omega
theorem tlen_ge {l : List Int} (h : ok32 l) (n : Nat) (hn : tlen l = n + 1) : (4294967296 : Int) ^ n ≤ valI (4294967296 : Int) l := by
 have h1 := top_ge h n (by have := tlen_le l; omega)
 have h2 := tl_top l l.length (by show tlen l ≠ 0; omega)
 have h3 : l.getD n 0 ≠ 0 := by
  have : tl l l.length - 1 = n := by show tlen l - 1 = n; omega
  rwa [this] at h2
 have h4 := ok32_getD h n
 have h5 : 1 * (4294967296 : Int) ^ n ≤ l.getD n 0 * (4294967296 : Int) ^ n := Int.mul_le_mul_of_nonneg_right (by omega) (Int.le_of_lt (b32_pos n))
 have h6 := tlen_val l
 rw [hn] at h6
 rw [h6]
 rw [Int.one_mul] at h5
 exact Int.le_trans h5 h1.1
theorem tlen_zero {l : List Int} (hn : tlen l = 0) : valI (4294967296 : Int) l = 0 := by
 rw [tlen_val, hn]; rfl
theorem b32_mono {m n : Nat} (h : m ≤ n) : (4294967296 : Int) ^ m ≤ (4294967296 : Int) ^ n := by
 obtain ⟨d, rfl⟩ := Nat.exists_eq_add_of_le h
 rw [Int.pow_add]
 have h1 := b32_pos m
 have h2 := b32_pos d
 have : (4294967296 : Int) ^ m * 1 ≤ (4294967296 : Int) ^ m * (4294967296 : Int) ^ d := Int.mul_le_mul_of_nonneg_left (by omega) (by omega)
 omega
theorem less_len {a b : List Int} (ha : ok32 a) (hb : ok32 b) (h : tlen a < tlen b) : valI (4294967296 : Int) a < valI (4294967296 : Int) b := by
 have h1 := tlen_lt ha
 have h2 := tlen_ge hb (tlen b - 1) (by omega)
 have h3 := b32_mono (m := tlen a) (n := tlen b - 1) (by omega)
 omega
theorem less_at {a b : List Int} (ha : ok32 a) (hb : ok32 b) (i : Nat) (h1 : i + 1 ≤ a.length) (h2 : i + 1 ≤ b.length) (h : a.getD i 0 < b.getD i 0) : valI (4294967296 : Int) (a.take (i + 1)) < valI (4294967296 : Int) (b.take (i + 1)) := by
 have k1 := (top_ge ha i h1).2
 have k2 := (top_ge hb i h2).1
 have k3 : (a.getD i 0 + 1) * (4294967296 : Int) ^ i ≤ b.getD i 0 * (4294967296 : Int) ^ i := Int.mul_le_mul_of_nonneg_right (by omega) (Int.le_of_lt (b32_pos i))
 omega
theorem sub_end {a b out : List Int} {w : Int} (hb : ok32 b) (ho : ok32 out) (hol : out.length = a.length) (hw : w = 0 ∨ w = 1) (hle : valI (4294967296 : Int) b ≤ valI (4294967296 : Int) a) (hlt : valI (4294967296 : Int) a < (4294967296 : Int) ^ a.length)
  (hv : valI (4294967296 : Int) out + valI (4294967296 : Int) (b.take a.length) = valI (4294967296 : Int) a + w * (4294967296 : Int) ^ a.length) : valI (4294967296 : Int) out = valI (4294967296 : Int) a - valI (4294967296 : Int) b := by
 have h1 := val32 ho
 rw [hol] at h1
 have hp := b32_pos a.length
 have h2 : valI (4294967296 : Int) b = valI (4294967296 : Int) (b.take a.length) := by
  rcases Nat.le_total a.length b.length with h | h
  ·have h3 := valI_split (4294967296 : Int) b a.length h
   have h4 := val32 (ok32_take hb a.length)
   have h5 := val32 (ok32_drop hb a.length)
   have h6 : valI (4294967296 : Int) (b.drop a.length) = 0 := by
    rcases Int.lt_or_le 0 (valI (4294967296 : Int) (b.drop a.length)) with h | h
    ·exfalso
     have : (4294967296 : Int) ^ a.length * 1 ≤ (4294967296 : Int) ^ a.length * valI (4294967296 : Int) (b.drop a.length) := Int.mul_le_mul_of_nonneg_left (by omega) (Int.le_of_lt hp)
     omega
    ·omega
   rw [h6, Int.mul_zero, Int.add_zero] at h3
   exact h3
  ·rw [List.take_of_length_le h]
 rcases hw with rfl | rfl
 ·rw [Int.zero_mul] at hv; omega
 ·exfalso; rw [Int.one_mul] at hv; omega
theorem mul_add_l0 (L : List Int) (by_ : Int) (hL : ok32 L) (hlen : L.length ≤ 100000) (hb0 : 0 ≤ by_) (hb1 : by_ < (4294967296 : Int)) :
  ∀ (d i : Nat) (out : List Int) (more : Int), L.length - i = d → i ≤ L.length → out.length = i → ok32 out → 0 ≤ more → more < (4294967296 : Int) →
  ∃ R : List Int, Ev (fun k => spec_l07MulAdd.l0 k L by_ more out (i : Int)) R ∧ ok32 R ∧ valI (4294967296 : Int) R = valI (4294967296 : Int) out + (4294967296 : Int) ^ i * (valI (4294967296 : Int) (L.drop i) * by_ + more) ∧ R.length ≤ L.length + 1 ∧ L.length ≤ R.length := by
 intro d
 induction d with
 | zero =>
  intro i out more hd hi hol ho h0 h1
  obtain rfl : i = L.length := by omega
  have e : valI (4294967296 : Int) (L.drop L.length) = 0 := by rw [List.drop_length]; rfl
  rw [e, Int.zero_mul, Int.zero_add]
  by_cases hm : more > 0
  ·refine ⟨out ++ [more], Ev.step (f := fun _ => some (out ++ [more])) (fun k => ?_) (Ev.now _), ok32_snoc ho h0 h1, ?_, by simp; omega, by simp; omega⟩
   ·simp only [spec_l07MulAdd.l0]
    rw [if_neg (by omega), if_pos hm, if_pos (by omega)]
   ·rw [valI_snoc, hol]
  ·obtain rfl : more = 0 := by omega
   refine ⟨out, Ev.step (f := fun _ => some out) (fun k => ?_) (Ev.now _), ho, by rw [Int.mul_zero, Int.add_zero], by omega, by omega⟩
   simp only [spec_l07MulAdd.l0]
   rw [if_neg (by omega), if_neg (by omega)]
 | succ d ih =>
  intro i out more hd hi hol ho h0 h1
  have hlt : i < L.length := by omega
  have hg := ok32_getD hL i
  have hm := mulB hg.1 hg.2 hb0 hb1
  have hx0 : 0 ≤ L.getD i 0 * by_ + more := by omega
  have hx1 : L.getD i 0 * by_ + more < 18446744073709551616 := by omega
  obtain ⟨R, r1, r2, r3, r4, r5⟩ := ih (i + 1) (out ++ [(L.getD i 0 * by_ + more) % (4294967296 : Int)]) ((L.getD i 0 * by_ + more) / (4294967296 : Int)) (by omega) (by omega) (by simp; omega) (ok32_snoc ho (by omega) (by omega)) (by omega) (by omega)
  refine ⟨R, Ev.step (fun k => ?_) r1, r2, ?_, r4, r5⟩
  ·simp only [spec_l07MulAdd.l0]
   rw [if_pos (by omega), if_pos (by omega), if_pos (by omega), rd_nat, wu64 (L.getD i 0 * by_), Int.emod_eq_of_lt hm.1 (by omega), wu64 (L.getD i 0 * by_ + more), Int.emod_eq_of_lt hx0 hx1, tdivN hx0, tmodN hx0, wu64, Int.emod_eq_of_lt (by omega) (by omega), w64s (by omega)]
  ·rw [r3, valI_snoc, hol, valI_drop (4294967296 : Int) L i hlt, Int.pow_succ]
   generalize valI (4294967296 : Int) (L.drop (i + 1)) = V
   have hd2 := Int.mul_ediv_add_emod (L.getD i 0 * by_ + more) (4294967296 : Int)
   generalize hq : (L.getD i 0 * by_ + more) / (4294967296 : Int) = q at *
   generalize hr : (L.getD i 0 * by_ + more) % (4294967296 : Int) = r at *
   generalize (4294967296 : Int) ^ i = P
   generalize L.getD i 0 = g at *
   generalize (4294967296 : Int) = B at *
   have : P * ((g + B * V) * by_ + more) = P * (B * q + r) + P * (B * V * by_) := by rw [hd2]; grind
   rw [this]; grind
theorem mul_add (L : List Int) (by_ more : Int) (hL : ok32 L) (hlen : L.length ≤ 100000) (hb0 : 0 ≤ by_) (hb1 : by_ < (4294967296 : Int)) (h0 : 0 ≤ more) (h1 : more < (4294967296 : Int)) :
  ∃ R : List Int, Ev (fun k => spec_l07MulAdd.f k L by_ more) R ∧ ok32 R ∧ valI (4294967296 : Int) R = valI (4294967296 : Int) L * by_ + more ∧ R.length ≤ L.length + 1 ∧ L.length ≤ R.length := by
 obtain ⟨R, r1, r2, r3, r4, r5⟩ := mul_add_l0 L by_ hL hlen hb0 hb1 L.length 0 [] more (by omega) (by omega) rfl ok32_nil h0 h1
 exact ⟨R, r1, r2, by rw [r3]; simp [valI], r4, r5⟩
theorem bin_l0 (s : ByteArray) (hs : s.size ≤ 1000) (hd : ∀ b ∈ s.data.toList, isDg b) : ∀ (d i : Nat) (L : List Int), s.size - i = d → i ≤ s.size → ok32 L → L.length ≤ i → valI (4294967296 : Int) L = ((valD (s.data.toList.take i) : Nat) : Int) →
  ∃ R : List Int, Ev (fun k => spec_l07Bin.l0 k s L (i : Int)) R ∧ ok32 R ∧ valI (4294967296 : Int) R = ((valD s.data.toList : Nat) : Int) ∧ R.length ≤ s.size := by
 intro d
 induction d with
 | zero =>
  intro i L hd2 hi hL hlen hv
  obtain rfl : i = s.size := by omega
  rw [List.take_of_length_le (by simp)] at hv
  exact ⟨L, Ev.step (f := fun _ => some L) (fun k => by simp only [spec_l07Bin.l0]; rw [if_neg (by omega)]) (Ev.now _), hL, hv, hlen⟩
 | succ d ih =>
  intro i L hd2 hi hL hlen hv
  have hlt : i < s.size := by omega
  have hb := bt_list s i hlt
  have hdg := hd _ (List.getElem_mem (l := s.data.toList) (n := i) (by simpa using hlt))
  unfold isDg at hdg
  have htk := List.take_succ_eq_append_getElem (l := s.data.toList) (i := i) (by simpa using hlt)
  generalize s.data.toList[i]'(by simpa using hlt) = b at *
  obtain ⟨R, r1, r2, r3, r4, r5⟩ := mul_add L 10 ((b.toNat : Int) - 48) hL (by omega) (by decide) (by decide) (by omega) (by omega)
  obtain ⟨R', s1, s2⟩ := ih (i + 1) R (by omega) (by omega) r2 (by omega) (by rw [r3, hv, htk, valD_snoc]; omega)
  refine ⟨R', Ev.step (fun k => ?_) (Ev.bind (f := fun k t => spec_l07Bin.l0 k s t ((i + 1 : Nat) : Int)) r1 s1), s2⟩
  simp only [spec_l07Bin.l0]
  rw [if_pos (by omega), if_pos (by omega), hb, wu64 (b.toNat : Int), Int.emod_eq_of_lt (by omega) (by omega), wu64, Int.emod_eq_of_lt (by omega) (by omega), w64s (by omega)]
theorem bin_ev (s : ByteArray) (hs : s.size ≤ 1000) (hd : ∀ b ∈ s.data.toList, isDg b) : ∃ R : List Int, Ev (fun k => spec_l07Bin.f k s) R ∧ ok32 R ∧ valI (4294967296 : Int) R = ((valD s.data.toList : Nat) : Int) ∧ R.length ≤ s.size :=
 bin_l0 s hs hd s.size 0 [] (by omega) (by omega) ok32_nil (by simp) (by simp [valI, valD])
theorem len_l0 (L : List Int) (hlen : L.length ≤ 100000) : ∀ (n : Nat), n ≤ L.length → Ev (fun k => spec_l07Len.l0 k L (n : Int)) ((tl L n : Nat) : Int) := by
 intro n
 induction n with
 | zero => intro _; exact Ev.step (f := fun _ => some 0) (fun k => by simp only [spec_l07Len.l0]; rw [if_neg (by omega)]; rfl) (Ev.now _)
 | succ n ih =>
  intro h
  have e : wrap64 (((n + 1 : Nat) : Int) - 1) = (n : Int) := by rw [w64 (by omega) (by omega)]; omega
  by_cases h0 : L.getD n 0 = 0
  ·have ht : tl L (n + 1) = tl L n := if_pos h0
   rw [ht]
   refine Ev.step (fun k => ?_) (ih (by omega))
   simp only [spec_l07Len.l0]
   rw [if_pos (by omega), e, if_pos (by omega), if_pos (by omega), rd_nat, if_pos h0]
  ·have ht : tl L (n + 1) = n + 1 := if_neg h0
   rw [ht]
   refine Ev.step (f := fun _ => some ((n + 1 : Nat) : Int)) (fun k => ?_) (Ev.now _)
   simp only [spec_l07Len.l0]
   rw [if_pos (by omega), e, if_pos (by omega), if_pos (by omega), rd_nat, if_neg h0]
theorem len_ev (L : List Int) (hlen : L.length ≤ 100000) : Ev (fun k => spec_l07Len.f k L) ((tlen L : Nat) : Int) := len_l0 L hlen L.length (Nat.le_refl _)
theorem less_l0 (a b : List Int) (ha : ok32 a) (hb : ok32 b) (hla : a.length ≤ 100000) : ∀ n : Nat, n ≤ a.length → n ≤ b.length → Ev (fun k => spec_l07Less.l0 k a b ((n : Int) - 1)) (decide (valI (4294967296 : Int) (a.take n) < valI (4294967296 : Int) (b.take n))) := by
 intro n
 induction n with
 | zero =>
  intro _ _
  refine Ev.step (f := fun _ => some _) (fun k => ?_) (Ev.now _)
  simp only [spec_l07Less.l0]
  rw [if_neg (by omega)]
  simp [valI]
 | succ n ih =>
  intro h1 h2
  have e : ((n + 1 : Nat) : Int) - 1 = n := by omega
  rw [e]
  by_cases he : a.getD n 0 = b.getD n 0
  ·have h' := ih (by omega) (by omega)
   have hv : decide (valI (4294967296 : Int) (a.take (n + 1)) < valI (4294967296 : Int) (b.take (n + 1))) = decide (valI (4294967296 : Int) (a.take n) < valI (4294967296 : Int) (b.take n)) := by
    rw [decide_eq_decide, valI_take_succ (4294967296 : Int) a n (by omega), valI_take_succ (4294967296 : Int) b n (by omega), he]
    omega
   rw [hv]
   refine Ev.step (fun k => ?_) h'
   simp only [spec_l07Less.l0]
   rw [if_pos (by omega), if_pos (by omega), if_pos (by omega), if_pos (by omega), rd_nat, rd_nat, if_pos he, w64 (by omega) (by omega)]
  ·have hv : decide (valI (4294967296 : Int) (a.take (n + 1)) < valI (4294967296 : Int) (b.take (n + 1))) = decide (a.getD n 0 < b.getD n 0) := by
    rw [decide_eq_decide]
    rcases Int.lt_or_le (a.getD n 0) (b.getD n 0) with h | h
    ·have := less_at ha hb n h1 h2 h
     exact ⟨fun _ => h, fun _ => this⟩
    ·have := less_at hb ha n h2 h1 (by omega)
     exact ⟨fun hh => by omega, fun hh => by omega⟩
   rw [hv]
   refine Ev.step (f := fun _ => some (decide (a.getD n 0 < b.getD n 0))) (fun k => ?_) (Ev.now _)
   simp only [spec_l07Less.l0]
   rw [if_pos (by omega), if_pos (by omega), if_pos (by omega), if_pos (by omega), rd_nat, rd_nat, if_neg he]
theorem less_ev (a b : List Int) (ha : ok32 a) (hb : ok32 b) (hla : a.length ≤ 100000) (hlb : b.length ≤ 100000) : Ev (fun k => spec_l07Less.f k a b) (decide (valI (4294967296 : Int) a < valI (4294967296 : Int) b)) := by
 unfold spec_l07Less.f
 refine Ev.bind (len_ev a hla) (Ev.bind (len_ev b hlb) ?_)
 have h1 := tlen_le a
 have h2 := tlen_le b
 by_cases h : tlen a = tlen b
 ·refine ev_if (by omega) ?_
  rw [w64 (by omega) (by omega), tlen_val a, tlen_val b, ← h]
  exact less_l0 a b ha hb hla (tlen a) h1 (by omega)
 ·refine ev_else (by omega) ?_
  have e : decide (valI (4294967296 : Int) a < valI (4294967296 : Int) b) = decide (((tlen a : Nat) : Int) < ((tlen b : Nat) : Int)) := by
   rw [decide_eq_decide]
   rcases Nat.lt_or_ge (tlen a) (tlen b) with h3 | h3
   ·exact ⟨fun _ => by omega, fun _ => less_len ha hb h3⟩
   ·have := less_len hb ha (by omega)
    exact ⟨fun hh => by omega, fun hh => by omega⟩
  rw [e]; exact Ev.now _
theorem sub_l0 (a b : List Int) (ha : ok32 a) (hb : ok32 b) (hla : a.length ≤ 100000) :
  ∀ (d i : Nat) (out : List Int) (w : Int), a.length - i = d → i ≤ a.length → out.length = i → ok32 out → (w = 0 ∨ w = 1) → valI (4294967296 : Int) out + valI (4294967296 : Int) (b.take i) = valI (4294967296 : Int) (a.take i) + w * (4294967296 : Int) ^ i →
  ∃ (R : List Int) (w' : Int), Ev (fun k => spec_l07Sub.l0 k a b out w (i : Int)) R ∧ ok32 R ∧ R.length = a.length ∧ (w' = 0 ∨ w' = 1) ∧ valI (4294967296 : Int) R + valI (4294967296 : Int) (b.take a.length) = valI (4294967296 : Int) a + w' * (4294967296 : Int) ^ a.length := by
 intro d
 induction d with
 | zero =>
  intro i out w hd hi hol ho hw hv
  obtain rfl : i = a.length := by omega
  rw [List.take_length] at hv
  refine ⟨out, w, Ev.step (f := fun _ => some out) (fun k => ?_) (Ev.now _), ho, hol, hw, hv⟩
  simp only [spec_l07Sub.l0]
  rw [if_neg (by omega)]
 | succ d ih =>
  intro i out w hd hi hol ho hw hv
  have hga := ok32_getD ha i
  have hgb := ok32_getD hb i
  have hw' : 0 ≤ w ∧ w ≤ 1 := by omega
  -- what is taken here
  have hvb : valI (4294967296 : Int) (b.take (i + 1)) = valI (4294967296 : Int) (b.take i) + (4294967296 : Int) ^ i * b.getD i 0 := by
   by_cases h : i < b.length
   ·exact valI_take_succ (4294967296 : Int) b i h
   ·rw [List.take_of_length_le (by omega), List.take_of_length_le (by omega), getD_out b i (by omega), Int.mul_zero, Int.add_zero]
  have hva := valI_take_succ (4294967296 : Int) a i (by omega)
  have hstep : ∀ (x w2 : Int), x = a.getD i 0 + w2 * (4294967296 : Int) - (w + b.getD i 0) → valI (4294967296 : Int) (out ++ [x]) + valI (4294967296 : Int) (b.take (i + 1)) = valI (4294967296 : Int) (a.take (i + 1)) + w2 * (4294967296 : Int) ^ (i + 1) := by
   intro x w2 hx
   rw [valI_snoc, hol, hvb, hva, Int.pow_succ, hx]
   generalize (4294967296 : Int) ^ i = P at *
   generalize (4294967296 : Int) = B at *
   grind
  have body : ∀ (y : Int), y = w + b.getD i 0 → (∀ k, spec_l07Sub.l0 (k + 1) a b out w (i : Int) = if a.getD i 0 < y then (if out.length < 17592186044416 then (spec_l07Sub.l0 k a b (out ++ [IntKind.u64.wrap ((IntKind.u64.wrap (a.getD i 0 + 4294967296)) - y)]) 1 (wrap64 ((i : Int) + 1))) else none) else (if out.length < 17592186044416 then (spec_l07Sub.l0 k a b (out ++ [IntKind.u64.wrap (a.getD i 0 - y)]) 0 (wrap64 ((i : Int) + 1))) else none)) →
    ∃ (R : List Int) (w' : Int), Ev (fun k => spec_l07Sub.l0 k a b out w (i : Int)) R ∧ ok32 R ∧ R.length = a.length ∧ (w' = 0 ∨ w' = 1) ∧ valI (4294967296 : Int) R + valI (4294967296 : Int) (b.take a.length) = valI (4294967296 : Int) a + w' * (4294967296 : Int) ^ a.length := by
   intro y hy hk
   by_cases hlt : a.getD i 0 < y
   ·obtain ⟨R, w2, r1, r2⟩ := ih (i + 1) (out ++ [a.getD i 0 + 4294967296 - y]) 1 (by omega) (by omega) (by simp; omega) (ok32_snoc ho (by omega) (by omega)) (.inr rfl) (hstep _ 1 (by rw [hy, Int.one_mul]))
    refine ⟨R, w2, Ev.step (fun k => ?_) r1, r2⟩
    rw [hk k, if_pos hlt, if_pos (by omega), wu64 (a.getD i 0 + 4294967296), Int.emod_eq_of_lt (by omega) (by omega), wu64, Int.emod_eq_of_lt (by omega) (by omega), w64s (by omega)]
   ·obtain ⟨R, w2, r1, r2⟩ := ih (i + 1) (out ++ [a.getD i 0 - y]) 0 (by omega) (by omega) (by simp; omega) (ok32_snoc ho (by omega) (by omega)) (.inl rfl) (hstep _ 0 (by rw [hy, Int.zero_mul]; omega))
    refine ⟨R, w2, Ev.step (fun k => ?_) r1, r2⟩
    rw [hk k, if_neg hlt, if_pos (by omega), wu64, Int.emod_eq_of_lt (by omega) (by omega), w64s (by omega)]
  by_cases hib : i < b.length
  ·refine body (w + b.getD i 0) rfl (fun k => ?_)
   simp only [spec_l07Sub.l0]
   rw [if_pos (by omega), if_pos (by omega), if_pos (by omega), rd_nat, rd_nat, wu64 (w + b.getD i 0), Int.emod_eq_of_lt (by omega) (by omega)]
  ·refine body w (by rw [getD_out b i (by omega)]; omega) (fun k => ?_)
   simp only [spec_l07Sub.l0]
   rw [if_pos (by omega), if_neg (by omega), if_pos (by omega), rd_nat]
theorem sub_ev (a b : List Int) (ha : ok32 a) (hb : ok32 b) (hla : a.length ≤ 100000) (hle : valI (4294967296 : Int) b ≤ valI (4294967296 : Int) a) :
  ∃ R : List Int, Ev (fun k => spec_l07Sub.f k a b) R ∧ ok32 R ∧ R.length = a.length ∧ valI (4294967296 : Int) R = valI (4294967296 : Int) a - valI (4294967296 : Int) b := by
 obtain ⟨R, w, r1, r2, r3, r4, r5⟩ := sub_l0 a b ha hb hla a.length 0 [] 0 (by omega) (by omega) rfl ok32_nil (.inl rfl) (by simp [valI])
 exact ⟨R, r1, r2, r3, sub_end hb r2 r3 r4 hle (val32 ha).2 r5⟩
theorem bits_l0 (n : Int) : ∀ (c : Nat) (x k : Nat), x < 2 ^ c → k + c ≤ 60 → 0 ≤ n → n ≤ 100000 →
  ∃ j : Nat, Ev (fun r => spec_l07Bits.l0 r n (k : Int) (x : Int)) (32 * (n - 1) + ((k + j : Nat) : Int)) ∧ x < 2 ^ j ∧ (x ≠ 0 → 2 ^ j ≤ 2 * x) ∧ (x = 0 → j = 0) ∧ j ≤ c := by
 have hstop : ∀ (k : Nat), k ≤ 100 → 0 ≤ n → n ≤ 100000 → Ev (fun r => spec_l07Bits.l0 r n (k : Int) ((0 : Nat) : Int)) (32 * (n - 1) + ((k + 0 : Nat) : Int)) := by
  intro k hk h0 h1
  refine Ev.step (f := fun _ => some (32 * (n - 1) + ((k + 0 : Nat) : Int))) (fun r => ?_) (Ev.now _)
  simp only [spec_l07Bits.l0]
  rw [if_neg (by omega), w64 (x := n - 1) (by omega) (by omega), w64 (x := 32 * (n - 1)) (by omega) (by omega), w64 (by omega) (by omega)]
  rfl
 intro c
 induction c with
 | zero =>
  intro x k hx hk h0 h1
  obtain rfl : x = 0 := by simpa using hx
  exact ⟨0, hstop k (by omega) h0 h1, by omega, fun h => absurd rfl h, fun _ => rfl, Nat.le_refl _⟩
 | succ c ih =>
  intro x k hx hk h0 h1
  by_cases hx0 : x = 0
  ·subst hx0
   exact ⟨0, hstop k (by omega) h0 h1, by omega, fun h => absurd rfl h, fun _ => rfl, by omega⟩
  ·have hx60 : x < 2 ^ 60 := Nat.lt_of_lt_of_le hx (Nat.pow_le_pow_right (by omega) (by omega))
   rw [Nat.pow_succ] at hx
   obtain ⟨j, r1, r2, r3, r4, r5⟩ := ih (x / 2) (k + 1) (by omega) (by omega) h0 h1
   refine ⟨j + 1, ?_, ?_, ?_, fun h => absurd h hx0, by omega⟩
   ·refine Ev.step (fun r => ?_) (show Ev (fun r => spec_l07Bits.l0 r n (((k + 1 : Nat)) : Int) ((x / 2 : Nat) : Int)) _ by rw [show k + (j + 1) = k + 1 + j by omega]; exact r1)
    simp only [spec_l07Bits.l0]
    have hw : wrap64 ((k : Int) + 1) = ((k + 1 : Nat) : Int) := w64s (by omega)
    rw [if_pos (by omega), tdivN (by omega), hw, wu64, show ((x : Int) / 2) % 18446744073709551616 = ((x / 2 : Nat) : Int) by omega]
   ·rw [Nat.pow_succ]; omega
   ·intro _
    rw [Nat.pow_succ]
    by_cases h2 : x / 2 = 0
    ·rw [r4 h2]; omega
    ·have := r3 h2; omega
def nv (L : List Int) : Nat := (valI (4294967296 : Int) L).toNat
theorem nv_val {L : List Int} (h : ok32 L) : ((nv L : Nat) : Int) = valI (4294967296 : Int) L := by
 have := (val32 h).1
 unfold nv; omega
theorem b32_nat (n : Nat) : (4294967296 : Int) ^ n = ((2 ^ (32 * n) : Nat) : Int) := by
 rw [Nat.pow_mul, Int.natCast_pow]; rfl
theorem bits_ev (L : List Int) (hL : ok32 L) (hlen : L.length ≤ 2000) : ∃ j : Nat, Ev (fun k => spec_l07Bits.f k L) (j : Int) ∧ nv L < 2 ^ j ∧ (nv L ≠ 0 → 2 ^ j ≤ 2 * nv L) ∧ j ≤ 32 * L.length := by
 have hl := len_ev L (by omega)
 have htl := tlen_le L
 unfold spec_l07Bits.f
 cases hn : tlen L with
 | zero =>
  rw [hn] at hl
  have h0 : nv L = 0 := by unfold nv; rw [tlen_zero hn]; rfl
  exact ⟨0, Ev.bind hl (ev_if rfl (Ev.now _)), by omega, fun h => absurd h0 h, by omega⟩
 | succ n =>
  rw [hn] at hl
  have hg := ok32_getD hL n
  have h3 : L.getD n 0 ≠ 0 := by
   have h2 := tl_top L L.length (by show tlen L ≠ 0; omega)
   have : tl L L.length - 1 = n := by show tlen L - 1 = n; omega
   rwa [this] at h2
  obtain ⟨x, hx⟩ : ∃ x : Nat, L.getD n 0 = x := ⟨(L.getD n 0).toNat, by omega⟩
  have hx32 : x < 2 ^ 32 := by have := hg.2; omega
  obtain ⟨j, r1, r2, r3, r4, r5⟩ := bits_l0 ((n + 1 : Nat) : Int) 32 x 0 hx32 (by omega) (by omega) (by omega)
  have htop := top_ge hL n (by omega)
  have hv := tlen_val L
  rw [hn] at hv
  rw [← hv, ← nv_val hL, b32_nat, hx] at htop
  have t1 : x * 2 ^ (32 * n) ≤ nv L := by
   have := htop.1
   rw [← Int.natCast_mul] at this
   omega
  have t2 : nv L < (x + 1) * 2 ^ (32 * n) := by
   have := htop.2
   rw [show ((x : Int) + 1) = ((x + 1 : Nat) : Int) from rfl, ← Int.natCast_mul] at this
   omega
  refine ⟨32 * n + j, ?_, ?_, fun _ => ?_, by omega⟩
  ·refine Ev.bind hl ?_
   have hwn : wrap64 (((n + 1 : Nat) : Int) - 1) = (n : Int) := by rw [w64 (by omega) (by omega)]; omega
   rw [hwn, rd_nat, hx]
   refine ev_else (by omega) (ev_if (by omega) (ev_if (by omega) ?_))
   have e : 32 * (((n + 1 : Nat) : Int) - 1) + ((0 + j : Nat) : Int) = ((32 * n + j : Nat) : Int) := by omega
   rw [e] at r1
   exact r1
  ·rw [Nat.pow_add, Nat.mul_comm]
   exact Nat.lt_of_lt_of_le t2 (Nat.mul_le_mul_right _ r2)
  ·have := r3 (by omega)
   have h4 := Nat.mul_le_mul_right (2 ^ (32 * n)) this
   rw [Nat.pow_add, Nat.mul_comm]
   rw [Nat.mul_assoc] at h4
   omega
theorem up_ev (L : List Int) (n : Nat) (hL : ok32 L) (hlen : L.length ≤ 2000) (hn : n ≤ 100000) : ∃ R : List Int, Ev (fun k => spec_l07Up.f k L (n : Int)) R ∧ ok32 R ∧ nv R = nv L * 2 ^ n ∧ R.length ≤ L.length + n / 32 + 1 := by
 have hp : 2 ^ (n % 32) ≤ 2 ^ 31 := Nat.pow_le_pow_right (by omega) (by omega)
 obtain ⟨R, r1, r2, r3, r4, r5⟩ := mul_add L ((2 ^ (n % 32) : Nat) : Int) 0 hL (by omega) (Int.natCast_nonneg _) (by omega) (by omega) (by decide)
 have e1 : wrap64 (Int.tdiv (n : Int) 32) = ((n / 32 : Nat) : Int) := by rw [tdivN (by omega), w64 (by omega) (by omega)]; omega
 have e2 : Int.tmod (n : Int) 32 = ((n % 32 : Nat) : Int) := by rw [tmodN (by omega)]; omega
 have hok : ok32 (List.replicate (n / 32) 0 ++ R) := by
  intro y hy
  rcases List.mem_append.1 hy with e | e
  ·rw [(List.mem_replicate.1 e).2]; decide
  ·exact r2 y e
 refine ⟨List.replicate (n / 32) 0 ++ R, ?_, hok, ?_, by simp; omega⟩
 ·unfold spec_l07Up.f
  rw [e1, e2]
  refine ev_if (by omega) (ev_if (by rw [Int.toNat_natCast]; omega) ?_)
  simp only [Option.bind_some, Int.toNat_natCast]
  refine Ev.bind (spec_pow (n % 32) (by omega)) (Ev.bind r1 (ev_if ?_ (Ev.now _)))
  rw [List.length_replicate]; omega
 ·have h1 := nv_val hok
  have h2 := nv_val hL
  rw [valI_append, valI_zeros, Int.zero_add, List.length_replicate, r3, Int.add_zero, b32_nat, ← h2, ← Int.natCast_mul, ← Int.natCast_mul] at h1
  have h3 : nv (List.replicate (n / 32) 0 ++ R) = 2 ^ (32 * (n / 32)) * (nv L * 2 ^ (n % 32)) := by omega
  rw [h3]
  have e : 2 ^ n = 2 ^ (32 * (n / 32)) * 2 ^ (n % 32) := by rw [← Nat.pow_add]; congr 1; omega
  rw [e]; ac_rfl
theorem quot_step {A D k n a : Nat} (h : A * 2 ^ k = n * (2 * D) + a) (ha : a < 2 * D) :
  (a < D → A * 2 ^ (k + 1) = (n * 2) * (2 * D) + a * 2 ∧ a * 2 < 2 * D) ∧ (D ≤ a → A * 2 ^ (k + 1) = (n * 2 + 1) * (2 * D) + (a - D) * 2 ∧ (a - D) * 2 < 2 * D) := by
 have e : A * 2 ^ (k + 1) = n * 2 * (2 * D) + a * 2 := by
  rw [Nat.pow_succ, ← Nat.mul_assoc, h, Nat.add_mul]; congr 1; ac_rfl
 refine ⟨fun h1 => ⟨e, by omega⟩, fun h1 => ⟨?_, by omega⟩⟩
 rw [e, Nat.add_mul, Nat.one_mul]
 generalize n * 2 * (2 * D) = X
 omega
theorem quot_lt {A D k n a : Nat} (h : A * 2 ^ k = n * (2 * D) + a) (hA : A < D) (hk : 1 ≤ k) : n < 2 ^ (k - 1) := by
 have hD : 0 < D := by omega
 apply Nat.lt_of_mul_lt_mul_right (a := 2 * D)
 have e : 2 ^ k = 2 ^ (k - 1) * 2 := by rw [← Nat.pow_succ]; congr 1; omega
 have h1 : A * 2 ^ k < D * 2 ^ k := Nat.mul_lt_mul_of_pos_right hA (Nat.pow_pos (by omega))
 have h2 : D * 2 ^ k = 2 ^ (k - 1) * (2 * D) := by rw [e]; ac_rfl
 omega
theorem quot_end {A B n a : Nat} (hB : 0 < B) (h : A * 2 ^ 64 = n * (2 * (B * 2 ^ 63)) + a) (ha : a < 2 * (B * 2 ^ 63)) : n = A / B ∧ (decide (a > 0) = decide (A % B ≠ 0)) := by
 have e : 2 * (B * 2 ^ 63) = B * 2 ^ 64 := by rw [show (2 : Nat) ^ 64 = 2 * 2 ^ 63 from rfl]; ac_rfl
 rw [e] at h ha
 have hd : A * 2 ^ 64 / (B * 2 ^ 64) = A / B := Nat.mul_div_mul_right A B (by decide)
 have hm : A * 2 ^ 64 % (B * 2 ^ 64) = A % B * 2 ^ 64 := Nat.mul_mod_mul_right _ _ _
 have h1 : A * 2 ^ 64 / (B * 2 ^ 64) = n := by
  rw [h, Nat.mul_comm n, Nat.mul_add_div (by omega), Nat.div_eq_of_lt ha, Nat.add_zero]
 have h2 : A * 2 ^ 64 % (B * 2 ^ 64) = a := by
  rw [h, Nat.mul_comm n, Nat.mul_add_mod, Nat.mod_eq_of_lt ha]
 refine ⟨by rw [← h1, hd], ?_⟩
 rw [decide_eq_decide, ← h2, hm]
 generalize A % B = r
 omega
def clampE (E : Int) : Int := max (-5000) (min E 5000)
open CR in
def roundT (b : Bool) (M : Nat) (E : Int) (more : Bool) : Nat := if M = 0 then enc b 0 else nearS b M (clampE E) (more && decide (72057594037927936 ≤ M))
open CR in
theorem spec_sign (r : Nat) (b : Bool) (hr : r < 9223372036854775808) : Ev (fun k => spec_l03Sign.f k (r : Int) b) ((enc b r : Nat) : Int) := by
 unfold spec_l03Sign.f
 cases b
 ·exact Ev.now _
 ·simp only [if_true]
  refine Ev.bind spec_pow63 ?_
  rw [wu64, show ((r : Int) + 9223372036854775808) % 18446744073709551616 = ((enc true r : Nat) : Int) by unfold enc; rw [if_pos rfl]; omega]
  exact Ev.now _
open CR in
theorem spec_pack_j9 (b : Bool) (last : Int) (m : Nat) (h0 : -1074 ≤ last) (h1 : last ≤ 10000) (hm : m < 9007199254740992) (hn : last ≠ -1074 → 4503599627370496 ≤ m) :
  Ev (fun k => spec_RoundTo.j9 k b (m : Int) last) ((packN b last m : Nat) : Int) := by
 have hj : ∀ (k : Nat) (x1 x2 : Int), spec_RoundTo.j9 (k + 1) b x1 x2 = if x1 < 4503599627370496 then ((spec_l03Sign.f k x1 b).bind fun t104 => (some t104)) else (if x2 > 971 then ((spec_l03Sign.f k 9218868437227405312 b).bind fun t105 => (some t105)) else ((spec_l03Sign.f k (IntKind.u64.wrap ((IntKind.u64.wrap (x1 - 4503599627370496)) + (IntKind.u64.wrap ((IntKind.u64.wrap (wrap64 (x2 + 1075))) * 4503599627370496)))) b).bind fun t106 => (some t106))) := fun _ _ _ => rfl
 by_cases h3 : m < 4503599627370496
 ·have hl : last = -1074 := by
   rcases Int.lt_or_eq_of_le h0 with h | h
   ·have := hn (by omega); omega
   ·exact h.symm
  subst hl
  have e : packN b (-1074) m = enc b m := by
   unfold packN
   rw [Nat.min_eq_left (by omega), show (-1074 + 1074 : Int).toNat * 4503599627370496 + m = m by omega]
  rw [e]
  exact Ev.step (fun k => by rw [hj, if_pos (by omega)]) (Ev.bind (spec_sign m b (by omega)) (Ev.now _))
 ·by_cases h2 : last > 971
  ·have e : packN b last m = enc b 9218868437227405312 := by
    unfold packN
    rw [Nat.min_eq_right (by omega)]
   rw [e]
   have hs : Ev (fun k => spec_l03Sign.f k 9218868437227405312 b) ((enc b 9218868437227405312 : Nat) : Int) := spec_sign 9218868437227405312 b (by omega)
   exact Ev.step (fun k => by rw [hj, if_neg (by omega), if_pos h2]) (Ev.bind hs (Ev.now _))
  ·have e : packN b last m = enc b (m - 4503599627370496 + (last + 1075).toNat * 4503599627370496) := by
    unfold packN
    rw [Nat.min_eq_left (by omega)]
    exact congrArg (enc b) (by omega)
   rw [e]
   refine Ev.step (fun k => ?_) (Ev.bind (spec_sign (m - 4503599627370496 + (last + 1075).toNat * 4503599627370496) b (by omega)) (Ev.now _))
   rw [hj, if_neg (by omega), if_neg h2, w64 (x := last + 1075) (by omega) (by omega), wu64, wu64, wu64, wu64,
    show (((m : Int) - 4503599627370496) % 18446744073709551616 + (last + 1075) % 18446744073709551616 * 4503599627370496 % 18446744073709551616) % 18446744073709551616 = ((m - 4503599627370496 + (last + 1075).toNat * 4503599627370496 : Nat) : Int) by omega]
open CR in
theorem spec_pack_j8 (b : Bool) (last : Int) (m : Nat) (h0 : -1074 ≤ last) (h1 : last ≤ 9000) (hm : m ≤ 9007199254740992) (hn : last ≠ -1074 → 4503599627370496 ≤ m) :
  Ev (fun k => spec_RoundTo.j8 k b (m : Int) last) ((packN b last m : Nat) : Int) := by
 have hj : ∀ (k : Nat) (x1 x2 : Int), spec_RoundTo.j8 (k + 1) b x1 x2 = if x1 = 9007199254740992 then (spec_RoundTo.j9 k b 4503599627370496 (wrap64 (x2 + 1))) else (spec_RoundTo.j9 k b x1 x2) := fun _ _ _ => rfl
 by_cases h2 : m = 9007199254740992
 ·subst h2
  have e : packN b last 9007199254740992 = packN b (last + 1) 4503599627370496 := by
   unfold packN
   rw [show (last + 1074).toNat * 4503599627370496 + 9007199254740992 = (last + 1 + 1074).toNat * 4503599627370496 + 4503599627370496 by omega]
  rw [e]
  refine Ev.step (fun k => ?_) (spec_pack_j9 b (last + 1) 4503599627370496 (by omega) (by omega) (by omega) (fun _ => by omega))
  rw [hj, if_pos (by omega), w64 (by omega) (by omega)]
  rfl
 ·exact Ev.step (fun k => by rw [hj, if_neg (by omega)]) (spec_pack_j9 b last m h0 (by omega) (by omega) hn)
open CR in
theorem spec_pack_j7 (b : Bool) (last : Int) (m : Nat) (z : Bool) (h0 : -1074 ≤ last) (h1 : last ≤ 9000) (hm : m + z.toNat ≤ 9007199254740992) (hn : last ≠ -1074 → 4503599627370496 ≤ m) :
  Ev (fun k => spec_RoundTo.j7 k b (m : Int) last z) ((packN b last (m + z.toNat) : Nat) : Int) := by
 have hj : ∀ (k : Nat) (x1 x2 : Int) (z : Bool), spec_RoundTo.j7 (k + 1) b x1 x2 z = if z = true then (spec_RoundTo.j8 k b (IntKind.u64.wrap (x1 + 1)) x2) else (spec_RoundTo.j8 k b x1 x2) := fun _ _ _ _ => rfl
 cases z
 ·exact Ev.step (fun k => by rw [hj, if_neg (by simp)]) (spec_pack_j8 b last m h0 h1 (by simpa using hm) hn)
 ·refine Ev.step (fun k => ?_) (spec_pack_j8 b last (m + 1) h0 h1 (by simpa using hm) (fun h => by have := hn h; omega))
  have hm' : m + 1 ≤ 9007199254740992 := by simpa using hm
  rw [hj, if_pos rfl, wu64, show ((m : Int) + 1) % 18446744073709551616 = ((m + 1 : Nat) : Int) by omega]
def halfB (M j : Nat) : Bool := decide (1 ≤ j ∧ M / 2 ^ (j - 1) % 2 = 1)
def restB (st : Bool) (M j : Nat) : Bool := st || decide (1 ≤ j ∧ M % 2 ^ (j - 1) ≠ 0)
open CR in
theorem round_bits (st : Bool) (M d : Nat) (hst : st = true → 1 ≤ d) : M / 2 ^ d + (halfB M d && (restB st M d || (M / 2 ^ d % 2 == 1))).toNat = if st then rneS M d else rne M d := by
 cases d with
 | zero =>
  have e : halfB M 0 = false := by unfold halfB; exact decide_eq_false (by omega)
  rw [e]
  cases st
  ·rw [rne_zero]; simp
  ·have := hst rfl; omega
 | succ c =>
  have e2 : (2 : Nat) ^ (c + 1) = 2 * 2 ^ c := by rw [Nat.pow_succ]; omega
  have hmod : M % 2 ^ (c + 1) = M % 2 ^ c + 2 ^ c * (M / 2 ^ c % 2) := Nat.mod_pow_succ
  have hlt : M % 2 ^ c < 2 ^ c := Nat.mod_lt _ (Nat.pow_pos (by omega))
  unfold rneS rne halfB restB
  rw [show c + 1 - 1 = c by omega, hmod, e2]
  generalize M / (2 * 2 ^ c) = q
  have hb : M / 2 ^ c % 2 = 0 ∨ M / 2 ^ c % 2 = 1 := by omega
  generalize M / 2 ^ c % 2 = h at *
  generalize M % 2 ^ c = r at *
  generalize 2 ^ c = p at *
  rcases hb with rfl | rfl
  ·rw [Nat.mul_zero, Nat.add_zero]
   have e : decide (1 ≤ c + 1 ∧ 0 = 1) = false := decide_eq_false (by omega)
   rw [e]
   cases st
   ·rw [if_neg (by simp), if_neg (by omega)]; rfl
   ·rw [if_pos rfl, if_neg (by omega)]; rfl
  ·rw [Nat.mul_one]
   have e : decide (1 ≤ c + 1 ∧ 1 = 1) = true := decide_eq_true (by omega)
   rw [e, Bool.true_and]
   cases st
   ·rw [if_neg (by simp)]
    by_cases h0 : r = 0
    ·subst h0
     have e3 : decide (1 ≤ c + 1 ∧ 0 ≠ 0) = false := decide_eq_false (by omega)
     rw [e3, Bool.false_or, Bool.false_or]
     by_cases h1 : q % 2 = 1
     ·rw [if_pos (.inr (by omega)), show (q % 2 == 1) = true by simpa using h1]; rfl
     ·rw [if_neg (by omega), show (q % 2 == 1) = false by simpa using h1]; rfl
    ·have e3 : decide (1 ≤ c + 1 ∧ r ≠ 0) = true := decide_eq_true (by omega)
     rw [e3, if_pos (.inl (by omega))]; rfl
   ·rw [if_pos rfl, if_pos (by omega)]; rfl
theorem half_next (M j : Nat) : halfB M (j + 1) = (M / 2 ^ j % 2 == 1) := by
 unfold halfB
 rw [show j + 1 - 1 = j by omega]
 by_cases h : M / 2 ^ j % 2 = 1
 ·rw [decide_eq_true (by omega)]; exact (beq_iff_eq.mpr h).symm
 ·rw [decide_eq_false (by omega)]; exact (beq_eq_false_iff_ne.mpr h).symm
theorem rest_next (st : Bool) (M j : Nat) : restB st M (j + 1) = (restB st M j || halfB M j) := by
 unfold restB halfB
 rw [show j + 1 - 1 = j by omega]
 cases st
 ·simp only [Bool.false_or]
  cases j with
  | zero => simp [Nat.mod_one]
  | succ c =>
   rw [show c + 1 - 1 = c by omega, Nat.mod_pow_succ]
   have hp : 0 < 2 ^ c := Nat.pow_pos (by omega)
   generalize M % 2 ^ c = r
   have hb : M / 2 ^ c % 2 = 0 ∨ M / 2 ^ c % 2 = 1 := by omega
   generalize M / 2 ^ c % 2 = h at *
   generalize 2 ^ c = p at *
   rcases hb with rfl | rfl
   ·rw [Nat.mul_zero, Nat.add_zero]; simp
   ·rw [Nat.mul_one]; simp; omega
 ·simp
theorem spec_l1_done (k : Nat) (b : Bool) (m : Int) (e : Int) (h r : Bool) (h1 : ¬ m ≥ 9007199254740992) (h2 : -1074 ≤ e) : spec_RoundTo.l1 (k + 2) b m e h r = spec_RoundTo.j7 k b m e (h && (r || (Int.tmod m 2 == 1))) := by
 have hj6 : ∀ (k : Nat), spec_RoundTo.j6 (k + 1) b m e h r false = (if h = true then (if r = true then (spec_RoundTo.j7 k b m e true) else (spec_RoundTo.j7 k b m e ((Int.tmod m 2) == 1))) else (spec_RoundTo.j7 k b m e false)) := fun _ => rfl
 have hl : ∀ (k : Nat), spec_RoundTo.l1 (k + 1) b m e h r = if m ≥ 9007199254740992 then (spec_RoundTo.j6 k b m e h r true) else (spec_RoundTo.j6 k b m e h r (decide (e < (-1074)))) := fun _ => rfl
 rw [hl, if_neg h1, decide_eq_false (by omega), hj6]
 cases h <;> cases r <;> rfl
theorem spec_l1_next (k : Nat) (b : Bool) (m : Nat) (e : Int) (h r : Bool) (hm : m < 18446744073709551616) (he : -30000 ≤ e ∧ e ≤ 30000) (hc : m ≥ 9007199254740992 ∨ e < -1074) :
  spec_RoundTo.l1 (k + 2) b (m : Int) e h r = if m / 2 = 0 ∧ e + 1 < -1074 then spec_RoundTo.l1 k b 0 (-1074) false ((r || h) || (m % 2 == 1)) else spec_RoundTo.l1 k b ((m / 2 : Nat) : Int) (e + 1) (m % 2 == 1) (r || h) := by
 have hj6 : ∀ (k : Nat), spec_RoundTo.j6 (k + 1) b (m : Int) e h r true = if r = true then (if (IntKind.u64.wrap (Int.tdiv (m : Int) 2)) = 0 then (if (wrap64 (e + 1)) < (-1074) then (spec_RoundTo.l1 k b (IntKind.u64.wrap (Int.tdiv (m : Int) 2)) (-1074) false true) else (spec_RoundTo.l1 k b (IntKind.u64.wrap (Int.tdiv (m : Int) 2)) (wrap64 (e + 1)) ((Int.tmod (m : Int) 2) == 1) true)) else (spec_RoundTo.l1 k b (IntKind.u64.wrap (Int.tdiv (m : Int) 2)) (wrap64 (e + 1)) ((Int.tmod (m : Int) 2) == 1) true)) else (if (IntKind.u64.wrap (Int.tdiv (m : Int) 2)) = 0 then (if (wrap64 (e + 1)) < (-1074) then (if h = true then (spec_RoundTo.l1 k b (IntKind.u64.wrap (Int.tdiv (m : Int) 2)) (-1074) false true) else (spec_RoundTo.l1 k b (IntKind.u64.wrap (Int.tdiv (m : Int) 2)) (-1074) false ((Int.tmod (m : Int) 2) == 1))) else (spec_RoundTo.l1 k b (IntKind.u64.wrap (Int.tdiv (m : Int) 2)) (wrap64 (e + 1)) ((Int.tmod (m : Int) 2) == 1) h)) else (spec_RoundTo.l1 k b (IntKind.u64.wrap (Int.tdiv (m : Int) 2)) (wrap64 (e + 1)) ((Int.tmod (m : Int) 2) == 1) h)) := fun _ => rfl
 have hl : ∀ (k : Nat), spec_RoundTo.l1 (k + 1) b (m : Int) e h r = if (m : Int) ≥ 9007199254740992 then (spec_RoundTo.j6 k b (m : Int) e h r true) else (spec_RoundTo.j6 k b (m : Int) e h r (decide (e < (-1074)))) := fun _ => rfl
 have e0 : spec_RoundTo.l1 (k + 2) b (m : Int) e h r = spec_RoundTo.j6 (k + 1) b (m : Int) e h r true := by
  rw [hl]
  by_cases h1 : (m : Int) ≥ 9007199254740992
  ·rw [if_pos h1]
  ·rw [if_neg h1, decide_eq_true (by omega)]
 have e1 : IntKind.u64.wrap (Int.tdiv (m : Int) 2) = ((m / 2 : Nat) : Int) := by rw [wu64, tdivN (Int.natCast_nonneg m)]; omega
 have e2 : ((Int.tmod (m : Int) 2) == 1) = (m % 2 == 1) := by
  rw [tmodN (Int.natCast_nonneg m), Bool.eq_iff_iff]; simp; omega
 have e3 : wrap64 (e + 1) = e + 1 := w64 (by omega) (by omega)
 rw [e0, hj6, e1, e2, e3]
 clear hj6 hl e0 e1 e2 e3
 by_cases h0 : m / 2 = 0
 ·have h0' : ((m / 2 : Nat) : Int) = 0 := by omega
  rw [h0']
  by_cases h1 : e + 1 < -1074
  ·simp only [if_pos h1, if_pos (show m / 2 = 0 ∧ e + 1 < -1074 from ⟨h0, h1⟩)]
   cases r <;> cases h <;> rfl
  ·simp only [if_neg h1, if_neg (show ¬ (m / 2 = 0 ∧ e + 1 < -1074) from fun hh => h1 hh.2)]
   cases r <;> cases h <;> rfl
 ·have h0' : ¬ ((m / 2 : Nat) : Int) = 0 := by omega
  simp only [if_neg h0', if_neg (show ¬ (m / 2 = 0 ∧ e + 1 < -1074) from fun hh => h0 hh.1)]
  cases r <;> cases h <;> rfl
open CR in
theorem spec_l1_run (b st : Bool) (M : Nat) (E : Int) (D : Nat) (_h0 : M ≠ 0) (hM : M < 18446744073709551616) (hE : -5000 ≤ E ∧ E ≤ 5000) (hst : st = true → 1 ≤ D) (hD0 : -1074 ≤ E + D) (hD1 : M < 2 ^ (53 + D)) (hD2 : D < 10000) (hD3 : E + D ≤ 9000) (hstep : ∀ j, j < D → 2 ^ (53 + j) ≤ M ∨ E + j < -1074)
  (hn : E + D ≠ -1074 → 4503599627370496 ≤ M / 2 ^ D) :
  ∀ (d j : Nat), D - j = d → j ≤ D → Ev (fun k => spec_RoundTo.l1 k b ((M / 2 ^ j : Nat) : Int) (E + j) (halfB M j) (restB st M j)) ((packN b (E + D) (if st then rneS M D else rne M D) : Nat) : Int) := by
 intro d
 induction d with
 | zero =>
  intro j hd hj
  obtain rfl : j = D := by omega
  have hq : M / 2 ^ j < 9007199254740992 := Nat.div_lt_of_lt_mul (by rw [show (9007199254740992 : Nat) = 2 ^ 53 from rfl, ← Nat.pow_add, Nat.add_comm]; exact hD1)
  have hb := round_bits st M j hst
  rw [← hb]
  refine Ev.step (f := fun k => spec_RoundTo.l1 (k + 1) b ((M / 2 ^ j : Nat) : Int) (E + j) (halfB M j) (restB st M j)) (fun _ => rfl) ?_
  have ht : (Int.tmod ((M / 2 ^ j : Nat) : Int) 2 == 1) = (M / 2 ^ j % 2 == 1) := by
   rw [tmodN (Int.natCast_nonneg _), Bool.eq_iff_iff]
   generalize M / 2 ^ j = q
   simp; omega
  generalize hz : (halfB M j && (restB st M j || (M / 2 ^ j % 2 == 1))) = z
  have hz1 : z.toNat ≤ 1 := by cases z <;> decide
  refine Ev.step (fun k => ?_) (spec_pack_j7 b (E + j) (M / 2 ^ j) z hD0 hD3 (by omega) hn)
  rw [spec_l1_done k b _ _ _ _ (by omega) hD0, ht, hz]
 | succ d ih =>
  intro j hd hj
  have hc := hstep j (by omega)
  have hle : M / 2 ^ j ≤ M := Nat.div_le_self _ _
  have hdiv : M / 2 ^ j / 2 = M / 2 ^ (j + 1) := by rw [Nat.div_div_eq_div_mul, ← Nat.pow_succ]
  have hcond : M / 2 ^ j ≥ 9007199254740992 ∨ E + (j : Int) < -1074 := by
   rcases hc with h | h
   ·left
    exact (Nat.le_div_iff_mul_le (Nat.pow_pos (by omega))).2 (by rw [show (9007199254740992 : Nat) = 2 ^ 53 from rfl, ← Nat.pow_add]; exact h)
   ·right; exact h
  have hnx : ∀ k, spec_RoundTo.l1 (k + 2) b ((M / 2 ^ j : Nat) : Int) (E + j) (halfB M j) (restB st M j) = if M / 2 ^ j / 2 = 0 ∧ E + j + 1 < -1074 then spec_RoundTo.l1 k b 0 (-1074) false ((restB st M j || halfB M j) || (M / 2 ^ j % 2 == 1)) else spec_RoundTo.l1 k b ((M / 2 ^ j / 2 : Nat) : Int) (E + j + 1) (M / 2 ^ j % 2 == 1) (restB st M j || halfB M j) :=
   fun k => spec_l1_next k b (M / 2 ^ j) (E + j) _ _ (by omega) (by omega) hcond
  refine Ev.step (f := fun k => spec_RoundTo.l1 (k + 1) b ((M / 2 ^ j : Nat) : Int) (E + j) (halfB M j) (restB st M j)) (fun _ => rfl) ?_
  by_cases hz : M / 2 ^ j / 2 = 0 ∧ E + j + 1 < -1074
  ·-- nothing is left of it
   have hz1 := hz.1
   rw [hdiv] at hz1
   have hlt : M < 2 ^ (j + 1) := by
    rcases Nat.lt_or_ge M (2 ^ (j + 1)) with h | h
    ·exact h
    ·have := Nat.div_pos h (Nat.pow_pos (n := j + 1) (show 0 < 2 by omega)); omega
   have hDj : j + 2 ≤ D := by omega
   have hp : 2 ^ (j + 2) ≤ 2 ^ D := Nat.pow_le_pow_right (by omega) hDj
   have hp2 : (2 : Nat) ^ (j + 2) = 2 * 2 ^ (j + 1) := by rw [Nat.pow_succ 2 (j + 1)]; omega
   have hS : rneS M D = 0 := by
    unfold rneS
    generalize 2 ^ D = q at *
    generalize 2 ^ (j + 2) = u at *
    generalize 2 ^ (j + 1) = v at *
    rw [Nat.div_eq_of_lt (show M < q by omega), Nat.mod_eq_of_lt (show M < q by omega), if_neg (by omega)]
   have hR : rne M D = 0 := by
    unfold rne
    generalize 2 ^ D = q at *
    generalize 2 ^ (j + 2) = u at *
    generalize 2 ^ (j + 1) = v at *
    rw [Nat.div_eq_of_lt (show M < q by omega), Nat.mod_eq_of_lt (show M < q by omega), if_neg (by omega)]
   have hz2 : (if st then rneS M D else rne M D) = 0 := by rw [hS, hR]; cases st <;> rfl
   rw [hz2]
   have hq0 : M / 2 ^ D = 0 := Nat.div_eq_of_lt (by
    generalize 2 ^ D = q at *
    generalize 2 ^ (j + 2) = u at *
    generalize 2 ^ (j + 1) = v at *
    omega)
   have hED : E + D = -1074 := by
    rcases Classical.em (E + D = -1074) with h | h
    ·exact h
    ·have := hn h; omega
   rw [hED]
   refine Ev.step (f := fun k => spec_RoundTo.l1 k b 0 (-1074) false ((restB st M j || halfB M j) || (M / 2 ^ j % 2 == 1))) (fun k => by rw [hnx k, if_pos hz]) ?_
   refine Ev.step (f := fun k => spec_RoundTo.l1 (k + 1) b 0 (-1074) false ((restB st M j || halfB M j) || (M / 2 ^ j % 2 == 1))) (fun _ => rfl) ?_
   exact Ev.step (fun k => by rw [spec_l1_done k b 0 (-1074) false _ (by omega) (by omega), Bool.false_and]; rfl) (spec_pack_j7 b (-1074) 0 false (by omega) (by omega) (by decide) (fun h => absurd rfl h))
  ·have h' := ih (j + 1) (by omega) (by omega)
   rw [half_next, rest_next, ← hdiv] at h'
   refine Ev.step (fun k => ?_) h'
   rw [hnx k, if_neg hz]
   rw [show E + (j : Int) + 1 = E + ((j + 1 : Nat) : Int) by omega]
open CR in
theorem spec_l0_run (b st : Bool) (M : Nat) (E : Int) (h0 : M ≠ 0) (hM : M < 18446744073709551616) (hE : -5000 ≤ E ∧ E ≤ 5000) (r : Int) :
  ∀ (d i : Nat), (E - lastP M E).toNat - i = d → i ≤ (E - lastP M E).toNat →
  Ev (fun k => spec_RoundTo.l1 k b ((M * 2 ^ (E - lastP M E).toNat : Nat) : Int) (E - (E - lastP M E).toNat) false st) r →
  Ev (fun k => spec_RoundTo.l0 k b ((M * 2 ^ i : Nat) : Int) (E - i) st) r := by
 have hl : ∀ (k : Nat) (x1 x2 : Int), spec_RoundTo.l0 (k + 1) b x1 x2 st = if x1 < 4503599627370496 then (if x2 > (-1074) then (spec_RoundTo.l0 k b (IntKind.u64.wrap (x1 * 2)) (wrap64 (x2 - 1)) st) else (spec_RoundTo.j4 k b x1 x2 st)) else (spec_RoundTo.j4 k b x1 x2 st) := fun _ _ _ => rfl
 have hj4 : ∀ (k : Nat) (x1 x2 : Int), spec_RoundTo.j4 (k + 1) b x1 x2 st = spec_RoundTo.l1 k b x1 x2 false st := fun _ _ _ => rfl
 have hlog := log_le h0
 have hlog2 := lt_log M
 have hlogM : M.log2 < 64 := log_mono hM h0
 intro d
 induction d with
 | zero =>
  intro i hd hi h
  obtain rfl : i = (E - lastP M E).toNat := by omega
  refine Ev.step (f := fun k => spec_RoundTo.j4 k b ((M * 2 ^ (E - lastP M E).toNat : Nat) : Int) (E - (E - lastP M E).toNat) st) (fun k => ?_) (Ev.step (fun k => by rw [hj4]) h)
  rw [hl]
  by_cases h1 : ((M * 2 ^ (E - lastP M E).toNat : Nat) : Int) < 4503599627370496
  ·rw [if_pos h1]
   have : ¬ (E - ((E - lastP M E).toNat : Int) > -1074) := by
    intro h2
    have h3 : M * 2 ^ (E - lastP M E).toNat < 2 ^ 52 := by
     have : (2 : Nat) ^ 52 = 4503599627370496 := rfl
     omega
    have h4 : 2 ^ (M.log2 + (E - lastP M E).toNat) ≤ M * 2 ^ (E - lastP M E).toNat := by
     rw [Nat.pow_add]; exact Nat.mul_le_mul_right _ hlog
    have h5 : M.log2 + (E - lastP M E).toNat < 52 := by
     rcases Nat.lt_or_ge (M.log2 + (E - lastP M E).toNat) 52 with h | h
     ·exact h
     ·have := Nat.pow_le_pow_right (n := 2) (by omega) h
      omega
    clear h1 h3 h4
    unfold lastP at *
    omega
   rw [if_neg this]
  ·rw [if_neg h1]
 | succ d ih =>
  intro i hd hi h
  have h' := ih (i + 1) (by omega) (by omega) h
  refine Ev.step (fun k => ?_) h'
  have hlt : M * 2 ^ i < 4503599627370496 := by
   have h3 : M * 2 ^ i < 2 ^ (M.log2 + 1) * 2 ^ i := Nat.mul_lt_mul_of_pos_right hlog2 (Nat.pow_pos (by omega))
   rw [← Nat.pow_add] at h3
   exact Nat.lt_of_lt_of_le h3 (Nat.pow_le_pow_right (n := 2) (by omega) (show M.log2 + 1 + i ≤ 52 by unfold lastP at *; omega))
  have hgt : E - (i : Int) > -1074 := by unfold lastP at *; omega
  have e1 : M * 2 ^ (i + 1) = M * 2 ^ i * 2 := by rw [Nat.pow_succ, Nat.mul_assoc]
  rw [e1]
  generalize M * 2 ^ i = p at *
  rw [hl, if_pos (by omega), if_pos hgt, wu64, w64 (by omega) (by omega), show ((p : Nat) : Int) * 2 % 18446744073709551616 = ((p * 2 : Nat) : Int) by omega, show E - (i : Int) - 1 = E - ((i + 1 : Nat) : Int) by omega]
open CR in
theorem spec_round_l0 (b st : Bool) (M : Nat) (E : Int) (h0 : M ≠ 0) (hM : M < 18446744073709551616) (hE : -5000 ≤ E ∧ E ≤ 5000) (hst : st = true → 72057594037927936 ≤ M) :
  Ev (fun k => spec_RoundTo.l0 k b (M : Int) E st) ((nearS b M E st : Nat) : Int) := by
 have hlog := log_le h0
 have hlog2 := lt_log M
 have hlogM : M.log2 < 64 := log_mono hM h0
 have h := spec_l0_run b st M E h0 hM hE ((nearS b M E st : Nat) : Int) (E - lastP M E).toNat 0 (by omega) (by omega)
 rw [Nat.pow_zero, Nat.mul_one, show E - ((0 : Nat) : Int) = E by omega] at h
 refine h ?_
 have hlp : -1074 ≤ lastP M E ∧ lastP M E ≤ 8000 := by unfold lastP; omega
 have hlp2 : E + M.log2 - 52 ≤ lastP M E := by unfold lastP; omega
 have hlp3 : lastP M E = -1074 ∨ lastP M E = E + M.log2 - 52 := by unfold lastP; omega
 have hkr := kept_range M E h0
 by_cases hd : lastP M E > E
 ·-- down
  have hres : nearS b M E st = packN b (E + ((lastP M E - E).toNat : Int)) (if st then rneS M (lastP M E - E).toNat else rne M (lastP M E - E).toNat) := by
   rw [show E + ((lastP M E - E).toNat : Int) = lastP M E by omega]
   cases st
   ·unfold nearS
    rw [if_neg (by simp), if_neg (by simp), near_down b M E h0 (by omega)]
   ·rw [near_st b M E (hst rfl), if_pos rfl]
  rw [hres, show (E - lastP M E).toNat = 0 by omega, Nat.pow_zero, Nat.mul_one, show E - ((0 : Nat) : Int) = E by omega]
  have hrun := spec_l1_run b st M E (lastP M E - E).toNat h0 hM hE (fun _ => by omega) (by omega)
   (Nat.lt_of_lt_of_le hlog2 (Nat.pow_le_pow_right (by omega) (by omega))) (by omega) (by omega)
   (fun j hj => by
    rcases Classical.em (E + j < -1074) with h | h
    ·exact .inr h
    ·left; exact Nat.le_trans (Nat.pow_le_pow_right (by omega) (by omega)) hlog)
   (fun hne => by
    have hx : lastP M E ≠ -1074 := by omega
    refine (Nat.le_div_iff_mul_le (Nat.pow_pos (by omega))).2 ?_
    rw [show (4503599627370496 : Nat) = 2 ^ 52 from rfl, ← Nat.pow_add]
    exact Nat.le_trans (Nat.pow_le_pow_right (by omega) (by omega)) hlog)
   (lastP M E - E).toNat 0 (by omega) (by omega)
  rw [Nat.pow_zero, Nat.div_one, show E + ((0 : Nat) : Int) = E by omega] at hrun
  have e1 : halfB M 0 = false := by unfold halfB; exact decide_eq_false (by omega)
  have e2 : restB st M 0 = st := by unfold restB; rw [decide_eq_false (by omega), Bool.or_false]
  rw [e1, e2] at hrun
  exact hrun
 ·-- up
  have hst2 : st = false := by
   cases st
   ·rfl
   ·have := lastP_big M E (hst rfl); omega
  subst hst2
  have hres : nearS b M E false = packN b (lastP M E) (M * 2 ^ (E - lastP M E).toNat) := by
   unfold nearS
   rw [if_neg (by simp), near_up b M E h0 (by omega)]
  rw [show (lastP M E - E).toNat = 0 by omega, rne_zero] at hkr
  rw [hres, show E - (((E - lastP M E).toNat : Nat) : Int) = lastP M E by omega]
  generalize hm : M * 2 ^ (E - lastP M E).toNat = m at *
  rcases Nat.lt_or_ge m 9007199254740992 with hmlt | hmge
  ·refine Ev.step (f := fun k => spec_RoundTo.l1 (k + 1) b (m : Int) (lastP M E) false false) (fun _ => rfl) ?_
   have hp := spec_pack_j7 b (lastP M E) m false hlp.1 (by omega) (by show m + 0 ≤ _; omega) hkr.2
   exact Ev.step (fun k => by rw [spec_l1_done k b (m : Int) (lastP M E) false false (by omega) hlp.1, Bool.false_and]) hp
  ·exfalso
   have h3 : M * 2 ^ (E - lastP M E).toNat < 2 ^ (M.log2 + 1) * 2 ^ (E - lastP M E).toNat := Nat.mul_lt_mul_of_pos_right hlog2 (Nat.pow_pos (by omega))
   rw [← Nat.pow_add] at h3
   have h4 := Nat.pow_le_pow_right (n := 2) (by omega) (show M.log2 + 1 + (E - lastP M E).toNat ≤ 53 by omega)
   have h5 : (2 : Nat) ^ 53 = 9007199254740992 := rfl
   omega
open CR in
theorem spec_round (b : Bool) (M : Nat) (hM : M < 18446744073709551616) (E : Int) (more : Bool) :
  Ev (fun k => spec_RoundTo.f k b (M : Int) E more) ((roundT b M E more : Nat) : Int) := by
 have hj0 : ∀ (k : Nat) (x2 : Int), spec_RoundTo.j0 (k + 1) b (M : Int) x2 more = if x2 < (-5000) then (spec_RoundTo.j1 k b (M : Int) (-5000) more) else (spec_RoundTo.j1 k b (M : Int) x2 more) := fun _ _ => rfl
 have hj1 : ∀ (k : Nat) (x2 : Int), spec_RoundTo.j1 (k + 1) b (M : Int) x2 more = if more = true then ((spec_l03Pow.f k 56).bind fun t102 => (spec_RoundTo.j2 k b (M : Int) x2 (decide ((M : Int) ≥ t102)))) else (spec_RoundTo.j2 k b (M : Int) x2 false) := fun _ _ => rfl
 have hj2 : ∀ (k : Nat) (x2 : Int) (z : Bool), spec_RoundTo.j2 (k + 1) b (M : Int) x2 z = if (M : Int) = 0 then ((spec_l03Sign.f k 0 b).bind fun t103 => (some t103)) else (spec_RoundTo.l0 k b (M : Int) x2 z) := fun _ _ _ => rfl
 have hcr : -5000 ≤ clampE E ∧ clampE E ≤ 5000 := by unfold clampE; omega
 have k2 : ∀ z : Bool, z = (more && decide (72057594037927936 ≤ M)) → Ev (fun k => spec_RoundTo.j2 k b (M : Int) (clampE E) z) ((roundT b M E more : Nat) : Int) := by
  intro z hz
  unfold roundT
  by_cases h0 : M = 0
  ·rw [if_pos h0]
   have hs : Ev (fun k => spec_l03Sign.f k 0 b) ((enc b 0 : Nat) : Int) := spec_sign 0 b (by omega)
   exact Ev.step (fun k => by rw [hj2, if_pos (by omega)]) (Ev.bind hs (Ev.now _))
  ·rw [if_neg h0, ← hz]
   exact Ev.step (fun k => by rw [hj2, if_neg (by omega)]) (spec_round_l0 b z M (clampE E) h0 hM hcr (fun hh => by rw [hz] at hh; simp at hh; exact hh.2))
 have k1 : Ev (fun k => spec_RoundTo.j1 k b (M : Int) (clampE E) more) ((roundT b M E more : Nat) : Int) := by
  cases hm : more
  ·rw [hm] at k2 hj1
   exact Ev.step (fun k => by rw [hj1, if_neg (by simp)]) (k2 false (by simp))
  ·rw [hm] at k2 hj1
   have hp : Ev (fun k => spec_l03Pow.f k 56) ((2 ^ 56 : Nat) : Int) := spec_pow 56 (by omega)
   refine Ev.step (f := fun k => (spec_l03Pow.f k 56).bind fun t102 => spec_RoundTo.j2 k b (M : Int) (clampE E) (decide ((M : Int) ≥ t102))) (fun k => by rw [hj1, if_pos rfl]) (Ev.bind hp ?_)
   refine k2 _ ?_
   rw [Bool.true_and, decide_eq_decide]
   have : ((2 ^ 56 : Nat) : Int) = 72057594037927936 := rfl
   rw [this]; omega
 unfold spec_RoundTo.f
 by_cases h1 : E > 5000
 ·simp only [if_pos h1]
  have : clampE E = 5000 := by unfold clampE; omega
  rw [this] at k1
  exact Ev.step (fun k => by rw [hj0, if_neg (by omega)]) k1
 ·simp only [if_neg h1]
  by_cases h2 : E < -5000
  ·have : clampE E = -5000 := by unfold clampE; omega
   rw [this] at k1
   exact Ev.step (fun k => by rw [hj0, if_pos h2]) k1
  ·have : clampE E = E := by unfold clampE; omega
   rw [this] at k1
   exact Ev.step (fun k => by rw [hj0, if_neg h2]) k1
open CR in
theorem round_near (b : Bool) (M : Nat) (E : Int) (st : Bool) (h0 : M ≠ 0) (h1 : -5000 ≤ E) (h2 : E ≤ 5000) (hst : st = true → 72057594037927936 ≤ M) : roundT b M E st = nearS b M E st := by
 unfold roundT
 rw [if_neg h0, show clampE E = E by unfold clampE; omega]
 congr 1
 cases hs : st
 ·rfl
 ·rw [decide_eq_true (hst hs)]; rfl
theorem quot_l0 (A B : Nat) (up : Int) (hup1 : -4000 ≤ up) (hup2 : up ≤ 4000) (D : List Int) (hD : ok32 D) (hDl : D.length ≤ 50000) (hDv : nv D = B * 2 ^ 63) (hB : 0 < B) (hA : A < B * 2 ^ 63) :
  ∀ (d k n : Nat) (L : List Int), 64 - k = d → k ≤ 64 → ok32 L → L.length ≤ 3000 + k → A * 2 ^ k = n * (2 * (B * 2 ^ 63)) + nv L → nv L < 2 * (B * 2 ^ 63) →
  Ev (fun r => spec_l07Quotient.l0 r L up (n : Int) D (63 - (k : Int))) ((roundT false (A / B) (-up) (decide (A % B ≠ 0)) : Nat) : Int) := by
 have hl0 : ∀ (r : Nat) (L : List Int) (n i : Int), spec_l07Quotient.l0 (r + 1) L up n D i = if i ≥ 0 then ((spec_l07Less.f r L D).bind fun t174 => (if t174 = true then ((spec_l07MulAdd.f r L 2 0).bind fun t175 => (spec_l07Quotient.l0 r t175 up (IntKind.u64.wrap (n * 2)) D (wrap64 (i - 1)))) else ((spec_l07Sub.f r L D).bind fun t178 => ((spec_l07MulAdd.f r t178 2 0).bind fun t181 => (spec_l07Quotient.l0 r t181 up (IntKind.u64.wrap ((IntKind.u64.wrap (n * 2)) + 1)) D (wrap64 (i - 1))))))) else ((spec_l07Len.f r L).bind fun t172 => ((spec_RoundTo.f r false n (wrap64 (-up)) (decide (t172 > 0))).bind fun t173 => (some t173))) := fun _ _ _ _ => rfl
 intro d
 induction d with
 | zero =>
  intro k n L hd hk hL hLl hq hlt
  obtain rfl : k = 64 := by omega
  obtain ⟨q1, q2⟩ := quot_end hB hq hlt
  have hn : n < 18446744073709551616 := by
   have := quot_lt hq hA (by omega)
   exact Nat.lt_trans this (by decide)
  have ht := len_ev L (by omega)
  have hdec : decide (((tlen L : Nat) : Int) > 0) = decide (A % B ≠ 0) := by
   rw [← q2, decide_eq_decide]
   constructor
   ·intro h
    have := tlen_ge hL (tlen L - 1) (by omega)
    have h2 := b32_pos (tlen L - 1)
    have h3 := nv_val hL
    omega
   ·intro h
    rcases Nat.eq_zero_or_pos (tlen L) with h0 | h0
    ·have := tlen_zero h0
     have h3 := nv_val hL
     omega
    ·omega
  refine Ev.step (fun r => hl0 r L n _) (ev_else (by omega) (Ev.bind ht ?_))
  rw [hdec, w64 (by omega) (by omega), ← q1]
  exact Ev.bind (spec_round false n hn (-up) _) (Ev.now _)
 | succ d ih =>
  intro k n L hd hk hL hLl hq hlt
  obtain ⟨s1, s2⟩ := quot_step hq hlt
  have hle := less_ev L D hL hD (by omega) (by omega)
  have hi : wrap64 ((63 - (k : Int)) - 1) = 63 - ((k + 1 : Nat) : Int) := by rw [w64 (by omega) (by omega)]; omega
  have hl := nv_val hL
  have hd2 := nv_val hD
  have hpos : 63 - (k : Int) ≥ 0 := by omega
  by_cases hc : nv L < B * 2 ^ 63
  ·obtain ⟨t1, t2⟩ := s1 hc
   obtain ⟨R, r1, r2, r3, r4, r5⟩ := mul_add L 2 0 hL (by omega) (by decide) (by decide) (by decide) (by decide)
   have hR : nv R = nv L * 2 := by
    have := nv_val r2
    omega
   have hbound := quot_lt t1 hA (by omega)
   have hn : n * 2 < 18446744073709551616 := Nat.lt_of_lt_of_le hbound (by
    have := Nat.pow_le_pow_right (n := 2) (by omega) (show k + 1 - 1 ≤ 64 by omega)
    exact Nat.le_trans this (by decide))
   have h' := ih (k + 1) (n * 2) R (by omega) (by omega) r2 (by omega) (by rw [hR]; exact t1) (by rw [hR]; exact t2)
   rw [decide_eq_true (by omega)] at hle
   refine Ev.step (fun r => hl0 r L n _) (ev_if hpos (Ev.bind hle (ev_if rfl (Ev.bind r1 ?_))))
   rw [hi, wu64, show ((n : Int) * 2) % 18446744073709551616 = ((n * 2 : Nat) : Int) by omega]
   exact h'
  ·obtain ⟨t1, t2⟩ := s2 (by omega)
   obtain ⟨S, u1, u2, u3, u4⟩ := sub_ev L D hL hD (by omega) (by omega)
   obtain ⟨R, r1, r2, r3, r4, r5⟩ := mul_add S 2 0 u2 (by omega) (by decide) (by decide) (by decide) (by decide)
   have hR : nv R = (nv L - B * 2 ^ 63) * 2 := by
    have := nv_val r2
    omega
   have hbound := quot_lt t1 hA (by omega)
   have hn : n * 2 + 1 < 18446744073709551616 := Nat.lt_of_lt_of_le hbound (by
    have := Nat.pow_le_pow_right (n := 2) (by omega) (show k + 1 - 1 ≤ 64 by omega)
    exact Nat.le_trans this (by decide))
   have h' := ih (k + 1) (n * 2 + 1) R (by omega) (by omega) r2 (by omega) (by rw [hR]; exact t1) (by rw [hR]; exact t2)
   rw [decide_eq_false (by omega)] at hle
   refine Ev.step (fun r => hl0 r L n _) (ev_if hpos (Ev.bind hle (ev_else (by decide) (Ev.bind u1 (Ev.bind r1 ?_)))))
   rw [hi, wu64 ((n : Int) * 2), show ((n : Int) * 2) % 18446744073709551616 = ((n * 2 : Nat) : Int) by omega, wu64, show (((n * 2 : Nat) : Int) + 1) % 18446744073709551616 = ((n * 2 + 1 : Nat) : Int) by omega]
   exact h'
open CQ in
theorem quot_near {A B : Nat} {up : Int} (hup1 : -4000 ≤ up) (hup2 : up ≤ 4000) (hB : 0 < B) (hA : B * 2 ^ 61 ≤ A) : NearE A B (-up) (roundT false (A / B) (-up) (decide (A % B ≠ 0))) := by
 have hq : 2 ^ 61 ≤ A / B := (Nat.le_div_iff_mul_le hB).2 (by rw [Nat.mul_comm]; exact hA)
 have h56 : 72057594037927936 ≤ A / B := Nat.le_trans (by decide) hq
 rw [round_near false (A / B) (-up) _ (by omega) (by omega) (by omega) (fun _ => h56)]
 exact nearS_nearE hB rfl h56
@[irreducible] def T2400 : Nat := 2 ^ 2400
theorem two_up (m k : Nat) (h : m ≤ k) : 2 ^ m ≤ 2 ^ k := Nat.pow_le_pow_right (by omega) h
theorem T2400_ge (k : Nat) (h : k ≤ 2400) : 2 ^ k ≤ T2400 := by unfold T2400; exact two_up k 2400 h
theorem T2400_le (k : Nat) (h : 2400 ≤ k) : T2400 ≤ 2 ^ k := by unfold T2400; exact two_up 2400 k h
theorem T2400_lt {j x : Nat} (h : 2 ^ j ≤ 2 * x) (hx : x < T2400) : j < 2401 := by
 rcases Nat.lt_or_ge j 2401 with h1 | h1
 ·exact h1
 ·exfalso
  have h2 := T2400_le (j - 1) (by omega)
  have e : 2 ^ j = 2 ^ (j - 1) * 2 := by rw [← Nat.pow_succ]; congr 1; omega
  omega
open CQ in
theorem quot_ev (a b : List Int) (ha : ok32 a) (hb : ok32 b) (hla : a.length ≤ 1000) (hlb : b.length ≤ 1000) (ha0 : nv a ≠ 0) (hb0 : nv b ≠ 0) (hav : nv a < T2400) (hbv : nv b < T2400) : ∃ w : Nat, Ev (fun k => spec_l07Quotient.f k a b) (w : Int) ∧ NearE (nv a) (nv b) 0 w := by
 obtain ⟨ja, p1, p2, p3, p4⟩ := bits_ev a ha (by omega)
 obtain ⟨jb, q1, q2, q3, q4⟩ := bits_ev b hb (by omega)
 have p3 := p3 ha0
 have q3 := q3 hb0
 have hja := T2400_lt p3 hav
 have hjb := T2400_lt q3 hbv
 clear hav hbv
 have hw1 : wrap64 ((jb : Int) + 62) = (jb : Int) + 62 := w64 (by omega) (by omega)
 have hw : wrap64 ((jb : Int) + 62 - (ja : Int)) = (jb : Int) + 62 - ja := w64 (by omega) (by omega)
 have hj0 : ∀ (x y : List Int) (u : Int) (r : Nat), spec_l07Quotient.j0 (r + 1) x y u = (spec_l07Up.f r y 63).bind fun t169 => (spec_l07Quotient.l0 r x u 0 t169 63) := fun _ _ _ _ => rfl
 by_cases hup : (jb : Int) + 62 - ja > 0
 ·obtain ⟨m, hm⟩ : ∃ m : Nat, (jb : Int) + 62 - ja = m := ⟨((jb : Int) + 62 - ja).toNat, by omega⟩
  obtain ⟨R, r1, r2, r3, r4⟩ := up_ev a m ha (by omega) (by omega)
  obtain ⟨D, d1, d2, d3, d4⟩ := up_ev b 63 hb (by omega) (by omega)
  have e1 : 2 ^ ja * 2 ^ m = 2 ^ jb * 2 ^ 62 := by rw [← Nat.pow_add, ← Nat.pow_add]; congr 1; omega
  have hA1 : nv R < nv b * 2 ^ 63 := by
   rw [r3]
   have h1 : nv a * 2 ^ m < 2 ^ ja * 2 ^ m := Nat.mul_lt_mul_of_pos_right p2 (Nat.pow_pos (by omega))
   have h2 : 2 ^ jb * 2 ^ 62 ≤ 2 * nv b * 2 ^ 62 := Nat.mul_le_mul_right _ q3
   have h3 : 2 * nv b * 2 ^ 62 = nv b * 2 ^ 63 := by rw [show (2 : Nat) ^ 63 = 2 * 2 ^ 62 from rfl]; ac_rfl
   omega
  have hA2 : nv b * 2 ^ 61 ≤ nv R := by
   rw [r3]
   have h1 : 2 ^ ja * 2 ^ m ≤ 2 * nv a * 2 ^ m := Nat.mul_le_mul_right _ p3
   have h2 : nv b * 2 ^ 62 ≤ 2 ^ jb * 2 ^ 62 := Nat.mul_le_mul_right _ (Nat.le_of_lt q2)
   have h3 : nv b * 2 ^ 62 = 2 * (nv b * 2 ^ 61) := by rw [show (2 : Nat) ^ 62 = 2 * 2 ^ 61 from rfl]; ac_rfl
   have h4 : 2 * nv a * 2 ^ m = 2 * (nv a * 2 ^ m) := by rw [Nat.mul_assoc]
   rw [h3, ← e1] at h2
   rw [h4] at h1
   exact Nat.le_of_mul_le_mul_left (Nat.le_trans h2 h1) (by omega)
  have hmain := quot_l0 (nv R) (nv b) m (by omega) (by omega) D d2 (by omega) d3 (by omega) hA1 64 0 0 R (by omega) (by omega) r2 (by omega) (by rw [Nat.pow_zero, Nat.mul_one, Nat.zero_mul, Nat.zero_add]) (by omega)
  refine ⟨_, ?_, (nearE_same (A := nv R) (B := nv b) (C := nv a) (D := nv b) (E := -(m : Int)) (F := 0) (by omega) (by omega) m 0 (by omega) (by rw [r3, Nat.pow_zero, Nat.mul_one])).1 (quot_near (up := m) (by omega) (by omega) (by omega) hA2)⟩
  unfold spec_l07Quotient.f
  refine Ev.bind q1 (Ev.bind p1 ?_)
  rw [hw1, hw, hm]
  refine ev_if (by omega) (Ev.bind r1 (Ev.step (hj0 R b m) (Ev.bind d1 hmain)))
 ·obtain ⟨m, hm⟩ : ∃ m : Nat, (jb : Int) + 62 - ja = -(m : Int) := ⟨(-((jb : Int) + 62 - ja)).toNat, by omega⟩
  obtain ⟨R, r1, r2, r3, r4⟩ := up_ev b m hb (by omega) (by omega)
  obtain ⟨D, d1, d2, d3, d4⟩ := up_ev R 63 r2 (by omega) (by omega)
  have e1 : 2 ^ ja = 2 ^ jb * 2 ^ 62 * 2 ^ m := by rw [← Nat.pow_add, ← Nat.pow_add]; congr 1; omega
  have hR0 : 0 < nv R := by rw [r3]; exact Nat.mul_pos (by omega) (Nat.pow_pos (by omega))
  have hA1 : nv a < nv R * 2 ^ 63 := by
   rw [r3]
   have h2 : 2 ^ jb * 2 ^ 62 * 2 ^ m ≤ 2 * nv b * 2 ^ 62 * 2 ^ m := Nat.mul_le_mul_right _ (Nat.mul_le_mul_right _ q3)
   have h3 : 2 * nv b * 2 ^ 62 * 2 ^ m = nv b * 2 ^ m * 2 ^ 63 := by rw [show (2 : Nat) ^ 63 = 2 * 2 ^ 62 from rfl]; ac_rfl
   omega
  have hA2 : nv R * 2 ^ 61 ≤ nv a := by
   rw [r3]
   have h2 : nv b * 2 ^ 62 * 2 ^ m ≤ 2 ^ jb * 2 ^ 62 * 2 ^ m := Nat.mul_le_mul_right _ (Nat.mul_le_mul_right _ (Nat.le_of_lt q2))
   have h3 : nv b * 2 ^ 62 * 2 ^ m = 2 * (nv b * 2 ^ m * 2 ^ 61) := by rw [show (2 : Nat) ^ 62 = 2 * 2 ^ 61 from rfl]; ac_rfl
   omega
  have hmain := quot_l0 (nv a) (nv R) (-(m : Int)) (by omega) (by omega) D d2 (by omega) d3 hR0 hA1 64 0 0 a (by omega) (by omega) ha (by omega) (by rw [Nat.pow_zero, Nat.mul_one, Nat.zero_mul, Nat.zero_add]) (by omega)
  have hnear := quot_near (A := nv a) (B := nv R) (up := -(m : Int)) (by omega) (by omega) hR0 hA2
  refine ⟨_, ?_, (nearE_same (A := nv a) (B := nv R) (C := nv a) (D := nv b) (E := - -(m : Int)) (F := 0) hR0 (by omega) 0 m (by omega) (by rw [r3, Nat.pow_zero, Nat.mul_one]; ac_rfl)).1 hnear⟩
  unfold spec_l07Quotient.f
  refine Ev.bind q1 (Ev.bind p1 ?_)
  rw [hw1, hw, hm]
  refine ev_else (by omega) ?_
  have hneg : wrap64 (-(-(m : Int))) = (m : Int) := by rw [Int.neg_neg, w64 (by omega) (by omega)]
  rw [hneg]
  exact Ev.bind r1 (Ev.step (hj0 a R (-(m : Int))) (Ev.bind d1 hmain))
theorem spec_fig_l0 (s : ByteArray) (hs : s.size ≤ 140737488351232) : ∀ (d i : Nat), s.size - i = d → Ev (fun k => spec_FiguresOk.l0 k s i) (digB s i) := by
 intro d
 induction d with
 | zero =>
  intro i hd
  rw [digB_end s i (by omega)]
  exact Ev.step (f := fun _ => some true) (fun k => by simp only [spec_FiguresOk.l0]; rw [if_neg (by omega)]) (Ev.now _)
 | succ d ih =>
  intro i hd
  by_cases h1 : bt s i < 48
  ·rw [digB_no s i (by omega) (.inl h1)]
   exact Ev.step (f := fun _ => some false) (fun k => by simp only [spec_FiguresOk.l0]; rw [if_pos (by omega), if_pos (by omega), if_pos h1]) (Ev.now _)
  ·by_cases h2 : bt s i > 57
   ·rw [digB_no s i (by omega) (.inr h2)]
    exact Ev.step (f := fun _ => some false) (fun k => by simp only [spec_FiguresOk.l0]; rw [if_pos (by omega), if_pos (by omega), if_neg h1, if_pos h2]) (Ev.now _)
   ·rw [digB_yes s i (by omega)]
    exact Ev.step (fun k => by simp only [spec_FiguresOk.l0]; rw [if_pos (by omega), if_pos (by omega), if_neg h1, if_neg h2, w64 (by omega) (by omega)]; rfl) (ih (i + 1) (by omega))
theorem spec_fig (s : ByteArray) (hs : s.size ≤ 140737488351232) : Ev (fun k => spec_FiguresOk.f k s) (figOk s) := by
 have h0 := spec_fig_l0 s hs s.size 0 (by omega)
 unfold spec_FiguresOk.f
 rw [spec_in]
 simp only [Option.bind_some]
 by_cases h1 : 1 ≤ s.size ∧ s.size ≤ 800
 ·have e1 : decide ((1 : Int) ≤ (s.size : Int) ∧ (s.size : Int) ≤ 800) = true := decide_eq_true (by omega)
  simp only [e1, if_true]
  by_cases h2 : (s.size : Int) > 1
  ·simp only [if_pos h2, if_pos (show (0 : Int) < (s.size : Int) by omega)]
   by_cases h3 : bt s 0 = 48
   ·have e : figOk s = false := by unfold figOk; simp [h3]; omega
    rw [e]
    exact Ev.step (f := fun _ => some false) (fun k => by simp [spec_FiguresOk.j0, h3]) (Ev.now _)
   ·have e : figOk s = digB s 0 := by unfold figOk; simp [h3, h1]
    rw [e]
    exact Ev.step (fun k => by simp only [spec_FiguresOk.j0]; rw [if_neg (by simpa using h3)]; rfl) h0
  ·simp only [if_neg h2]
   have e : figOk s = digB s 0 := by
    unfold figOk
    have : decide (1 < s.size) = false := decide_eq_false (by omega)
    simp [h1, this]
   rw [e]
   exact Ev.step (fun k => by simp only [spec_FiguresOk.j0]; rw [if_neg (by simp)]; rfl) h0
 ·have e1 : decide ((1 : Int) ≤ (s.size : Int) ∧ (s.size : Int) ≤ 800) = false := decide_eq_false (by omega)
  have e : figOk s = false := by unfold figOk; rw [decide_eq_false h1]; rfl
  simp only [e1, e]
  exact Ev.step (f := fun _ => some false) (fun k => by simp [spec_FiguresOk.j0]) (Ev.now _)
theorem zero_l0 (s : ByteArray) (hs : s.size ≤ 1000) : ∀ (d i : Nat), s.size - i = d → i ≤ s.size → Ev (fun k => spec_l07Zero.l0 k s (i : Int)) (decide (∀ j : Nat, j < s.size → i ≤ j → bt s (j : Int) = 48)) := by
 intro d
 induction d with
 | zero =>
  intro i hd hi
  rw [decide_eq_true (fun j h1 h2 => by omega)]
  exact Ev.step (f := fun _ => some true) (fun k => by simp only [spec_l07Zero.l0]; rw [if_neg (by omega)]) (Ev.now _)
 | succ d ih =>
  intro i hd hi
  by_cases h : bt s (i : Int) = 48
  ·have e : decide (∀ j : Nat, j < s.size → i ≤ j → bt s (j : Int) = 48) = decide (∀ j : Nat, j < s.size → i + 1 ≤ j → bt s (j : Int) = 48) := by
    rw [decide_eq_decide]
    constructor
    ·exact fun H j h2 h1 => H j h2 (by omega)
    ·intro H j h2 h1
     rcases Nat.eq_or_lt_of_le h1 with rfl | h3
     ·exact h
     ·exact H j h2 h3
   rw [e]
   refine Ev.step (fun k => ?_) (ih (i + 1) (by omega) (by omega))
   simp only [spec_l07Zero.l0]
   rw [if_pos (by omega), if_pos (by omega), if_pos h, w64s (by omega)]
  ·rw [decide_eq_false (fun H => h (H i (by omega) (Nat.le_refl _)))]
   refine Ev.step (f := fun _ => some false) (fun k => ?_) (Ev.now _)
   simp only [spec_l07Zero.l0]
   rw [if_pos (by omega), if_pos (by omega), if_neg h]
theorem zero_ev (s : ByteArray) (h : figOk s = true) : Ev (fun k => spec_l07Zero.f k s) (decide (bt s 0 = 48)) := by
 obtain ⟨h1, h2, h3, h4⟩ := figOk_parts s h
 have e : decide (bt s 0 = 48) = decide (∀ j : Nat, j < s.size → 0 ≤ j → bt s (j : Int) = 48) := by
  rw [decide_eq_decide]
  constructor
  ·intro h5 j hj _
   have : ¬ 1 < s.size := fun h6 => h4 ⟨h5, h6⟩
   obtain rfl : j = 0 := by omega
   exact h5
  ·exact fun H => H 0 (by omega) (Nat.le_refl _)
 rw [e]
 exact zero_l0 s (by omega) s.size 0 rfl (by omega)
theorem near_l1 (E : Int) (hE1 : -500 ≤ E) (hE2 : E ≤ 500) (a : List Int) (r : Int) : ∀ (d i : Nat) (b : List Int), (-E).toNat - i = d → i ≤ (-E).toNat → ok32 b → b.length ≤ 1 + i →
  (∀ b', ok32 b' → b'.length ≤ 501 → nv b' = nv b * 10 ^ ((-E).toNat - i) → Ev (fun k => spec_l07Quotient.f k a b') r) → Ev (fun k => spec_Nearest.l1 k E a b (i : Int)) r := by
 have hw : wrap64 (-E) = -E := w64 (by omega) (by omega)
 have hl1 : ∀ (k : Nat) (b : List Int) (i : Int), spec_Nearest.l1 (k + 1) E a b i = if i < wrap64 (-E) then ((spec_l07MulAdd.f k b 10 0).bind fun t196 => (spec_Nearest.l1 k E a t196 (wrap64 (i + 1)))) else ((spec_l07Quotient.f k a b).bind fun t199 => (some t199)) := fun _ _ _ => rfl
 intro d
 induction d with
 | zero =>
  intro i b hd hi hb hbl hc
  have h1 := hc b hb (by omega) (by rw [show (-E).toNat - i = 0 by omega, Nat.pow_zero, Nat.mul_one])
  exact Ev.step (fun k => hl1 k b _) (ev_else (by rw [hw]; omega) (Ev.bind h1 (Ev.now _)))
 | succ d ih =>
  intro i b hd hi hb hbl hc
  have hlt : (i : Int) < -E := by omega
  obtain ⟨R, r1, r2, r3, r4, r5⟩ := mul_add b 10 0 hb (by omega) (by decide) (by decide) (by decide) (by decide)
  have hR : nv R = nv b * 10 := by
   have h1 := nv_val r2
   have h2 := nv_val hb
   omega
  have h' := ih (i + 1) R (by omega) (by omega) r2 (by omega) (fun b' q1 q2 q3 => hc b' q1 q2 (by
   rw [q3, hR, show (-E).toNat - i = ((-E).toNat - (i + 1)) + 1 by omega, Nat.pow_succ]; ac_rfl))
  have hi2 : wrap64 ((i : Int) + 1) = ((i + 1 : Nat) : Int) := w64s (by omega)
  exact Ev.step (fun k => hl1 k b _) (ev_if (by rw [hw]; exact hlt) (Ev.bind r1 (by rw [hi2]; exact h')))
theorem near_l0 (E : Int) (hE1 : -500 ≤ E) (hE2 : E ≤ 500) (b : List Int) (r : Int) : ∀ (d i : Nat) (a : List Int), E.toNat - i = d → i ≤ E.toNat → ok32 a → a.length ≤ 60 + i →
  (∀ a', ok32 a' → a'.length ≤ 560 → nv a' = nv a * 10 ^ (E.toNat - i) → Ev (fun k => spec_Nearest.l1 k E a' b 0) r) → Ev (fun k => spec_Nearest.l0 k E a b (i : Int)) r := by
 have hl0 : ∀ (k : Nat) (a : List Int) (i : Int), spec_Nearest.l0 (k + 1) E a b i = if i < E then ((spec_l07MulAdd.f k a 10 0).bind fun t193 => (spec_Nearest.l0 k E t193 b (wrap64 (i + 1)))) else (spec_Nearest.l1 k E a b 0) := fun _ _ _ => rfl
 intro d
 induction d with
 | zero =>
  intro i a hd hi ha hal hc
  have h1 := hc a ha (by omega) (by rw [show E.toNat - i = 0 by omega, Nat.pow_zero, Nat.mul_one])
  exact Ev.step (fun k => hl0 k a _) (ev_else (by omega) h1)
 | succ d ih =>
  intro i a hd hi ha hal hc
  have hlt : (i : Int) < E := by omega
  obtain ⟨R, r1, r2, r3, r4, r5⟩ := mul_add a 10 0 ha (by omega) (by decide) (by decide) (by decide) (by decide)
  have hR : nv R = nv a * 10 := by
   have h1 := nv_val r2
   have h2 := nv_val ha
   omega
  have h' := ih (i + 1) R (by omega) (by omega) r2 (by omega) (fun b' q1 q2 q3 => hc b' q1 q2 (by
   rw [q3, hR, show E.toNat - i = (E.toNat - (i + 1)) + 1 by omega, Nat.pow_succ]; ac_rfl))
  have hi2 : wrap64 ((i : Int) + 1) = ((i + 1 : Nat) : Int) := w64s (by omega)
  exact Ev.step (fun k => hl0 k a _) (ev_if hlt (Ev.bind r1 (by rw [hi2]; exact h')))
open CQ in
theorem nearE_any {A B : Nat} {E : Int} (hB : 0 < B) : ∃ w, NearE A B E w := nearU_any (Nat.mul_pos hB (pow_pos _))
theorem ten_two (k : Nat) : 10 ^ k ≤ 2 ^ (4 * k) := by
 rw [Nat.pow_mul]; exact Nat.pow_le_pow_left (by decide) k
open CQ in
theorem spec_near (s : ByteArray) (hs : s.size ≤ 140737488351232) (E : Int) : ∃ w : Nat, Ev (fun k => spec_Nearest.f k s E) (w : Int) ∧ (nearOk s E = false → w = 0) ∧ (nearOk s E = true → NearE (valD s.data.toList * 10 ^ E.toNat) (10 ^ (-E).toNat) 0 w) := by
 have hj : ∀ k b, spec_Nearest.j0 (k + 1) s E b = if b = true then some 0 else ((spec_l07Bin.f k s).bind fun t187 => spec_Nearest.l0 k E t187 [1] 0) := fun _ _ => rfl
 have hbad : Ev (fun k => spec_Nearest.j0 k s E true) ((0 : Nat) : Int) := Ev.step (f := fun _ => some ((0 : Nat) : Int)) (fun k => by rw [hj, if_pos rfl]; rfl) (Ev.now _)
 have hf := spec_fig s hs
 unfold spec_Nearest.f
 cases h1 : figOk s with
 | false =>
  rw [h1] at hf
  exact ⟨0, Ev.bind hf (ev_else (by decide) hbad), fun _ => rfl, fun h => by unfold nearOk at h; rw [h1] at h; simp at h⟩
 | true =>
  rw [h1] at hf
  by_cases h2 : s.size ≤ 60
  ·by_cases h3 : -500 ≤ E ∧ E ≤ 500
   ·have hz := zero_ev s h1
    by_cases h4 : bt s 0 = 48
    ·rw [decide_eq_true h4] at hz
     refine ⟨0, Ev.bind hf (ev_if rfl (ev_else (by omega) (Ev.bind (ev_const (spec_in E (-500) 500)) (ev_if (decide_eq_true h3) (Ev.bind hz hbad))))), fun _ => rfl, fun h => ?_⟩
     unfold nearOk at h; rw [decide_eq_true h4] at h; simp at h
    ·rw [decide_eq_false h4] at hz
     obtain ⟨k1, k2, k3, k4⟩ := figOk_parts s h1
     obtain ⟨A, a1, a2, a3, a4⟩ := bin_ev s (by omega) k3
     have hAv : nv A = valD s.data.toList := by have := nv_val a2; omega
     have hlt := valD_lt _ k3
     rw [size_data] at hlt
     have hpos : 0 < valD s.data.toList := by
      have h5 := figOk_dec s h1
      rcases Nat.eq_zero_or_pos (valD s.data.toList) with h6 | h6
      ·exfalso; rw [h6] at h5; rw [← h5] at h4; exact h4 rfl
      ·exact h6
     have h60 : valD s.data.toList < 2 ^ 240 := Nat.lt_of_lt_of_le hlt (Nat.le_trans (ten_two _) (Nat.pow_le_pow_right (by omega) (by omega)))
     have hp1 := ten_two E.toNat
     have hp2 := ten_two (-E).toNat
     have hone : ok32 [1] := by intro x hx; rw [List.mem_singleton.1 hx]; decide
     have hnv1 : nv [1] = 1 := by unfold nv valI valI; rfl
     -- the word, told ahead
     have key : ∀ A' B', ok32 A' → ok32 B' → A'.length ≤ 560 → B'.length ≤ 501 → nv A' = nv A * 10 ^ E.toNat → nv B' = 1 * 10 ^ (-E).toNat → ∃ w : Nat, Ev (fun k => spec_l07Quotient.f k A' B') (w : Int) ∧ NearE (valD s.data.toList * 10 ^ E.toNat) (10 ^ (-E).toNat) 0 w := by
      intro A' B' o1 o2 l1 l2 v1 v2
      rw [hAv] at v1
      rw [Nat.one_mul] at v2
      have q := quot_ev A' B' o1 o2 (by omega) (by omega) (by rw [v1]; exact Nat.ne_of_gt (Nat.mul_pos hpos (Nat.pow_pos (by omega)))) (by rw [v2]; exact Nat.ne_of_gt (Nat.pow_pos (by omega)))
       (by
        rw [v1]
        refine Nat.lt_of_lt_of_le (Nat.mul_lt_mul_of_lt_of_le h60 hp1 (Nat.pow_pos (by omega))) ?_
        rw [← Nat.pow_add]; exact T2400_ge _ (by omega))
       (by rw [v2]; exact Nat.lt_of_le_of_lt hp2 (Nat.lt_of_lt_of_le (Nat.pow_lt_pow_right (show 1 < 2 by omega) (show 4 * (-E).toNat < 4 * (-E).toNat + 1 by omega)) (T2400_ge _ (by omega))))
      rw [v1, v2] at q
      exact q
     obtain ⟨w, hw⟩ := nearE_any (A := valD s.data.toList * 10 ^ E.toNat) (B := 10 ^ (-E).toNat) (E := 0) (Nat.pow_pos (by omega))
     have hmain : Ev (fun k => spec_Nearest.j0 k s E false) (w : Int) := by
      refine Ev.step (fun k => by rw [hj, if_neg (by decide)]) (Ev.bind a1 ?_)
      refine near_l0 E h3.1 h3.2 [1] w E.toNat 0 A (by omega) (by omega) a2 (by omega) (fun A' o1 l1 v1 => ?_)
      refine near_l1 E h3.1 h3.2 A' w (-E).toNat 0 [1] (by omega) (by omega) hone (by simp) (fun B' o2 l2 v2 => ?_)
      obtain ⟨w', e1, e2⟩ := key A' B' o1 o2 l1 l2 (by rw [v1, Nat.sub_zero]) (by rw [v2, hnv1, Nat.sub_zero])
      rw [nearE_one hw e2]
      exact e1
     refine ⟨w, Ev.bind hf (ev_if rfl (ev_else (by omega) (Ev.bind (ev_const (spec_in E (-500) 500)) (ev_if (decide_eq_true h3) (Ev.bind hz hmain))))), fun h => ?_, fun _ => hw⟩
     unfold nearOk at h; rw [h1, decide_eq_true h2, decide_eq_true h3, decide_eq_false h4] at h; simp at h
   ·refine ⟨0, Ev.bind hf (ev_if rfl (ev_else (by omega) (Ev.bind (ev_const (spec_in E (-500) 500)) (ev_else (by rw [decide_eq_false h3]; decide) hbad)))), fun _ => rfl, fun h => ?_⟩
    unfold nearOk at h; rw [decide_eq_false h3] at h; simp at h
  ·refine ⟨0, Ev.bind hf (ev_if rfl (ev_if (by omega) hbad)), fun _ => rfl, fun h => ?_⟩
   unfold nearOk at h; rw [decide_eq_false h2] at h; simp at h
theorem spec_limbs_l1 (s : ByteArray) (hs : s.size ≤ 100000) (hd : ∀ b ∈ s.data.toList, isDg b) (out : List Int) (hout : out.length ≤ 20000) (e fr : Nat) (hfe : fr ≤ e) (he : e ≤ s.size) (h9 : e - fr ≤ 9) (r : List Int) :
  ∀ (d i : Nat) (x : Int), e - i = d → fr ≤ i → i ≤ e → 0 ≤ x → x < 10 ^ (i - fr) → ((valD (s.data.toList.take i) : Nat) : Int) = 10 ^ (i - fr) * ((valD (s.data.toList.take fr) : Nat) : Int) + x →
  (∀ y : Int, 0 ≤ y → y < E9 → ((valD (s.data.toList.take e) : Nat) : Int) = 10 ^ (e - fr) * ((valD (s.data.toList.take fr) : Nat) : Int) + y → Ev (fun k => spec_l06Limbs.l0 k s (out ++ [y]) ((e : Int) - 9)) r) →
  Ev (fun k => spec_l06Limbs.l1 k s out (e : Int) x (i : Int)) r := by
 have hpw : ∀ j : Nat, j ≤ 9 → (10 : Int) ^ j ≤ 1000000000 := by
  intro j hj
  rw [show (10 : Int) ^ j = ((10 ^ j : Nat) : Int) by rw [Int.natCast_pow]; rfl]
  have := Nat.pow_le_pow_right (n := 10) (by omega) hj
  omega
 intro d
 induction d with
 | zero =>
  intro i x hd2 hi1 hi2 hx0 hx1 hv hc
  obtain rfl : i = e := by omega
  have := hpw (i - fr) h9
  refine Ev.step (fun k => ?_) (hc x hx0 (by unfold E9; omega) hv)
  simp only [spec_l06Limbs.l1]
  rw [if_neg (by omega), if_pos (by omega), w64 (by omega) (by omega)]
 | succ d ih =>
  intro i x hd2 hi1 hi2 hx0 hx1 hv hc
  have hlt : i < s.size := by omega
  have hb := bt_list s i hlt
  have hdg := hd _ (List.getElem_mem (l := s.data.toList) (n := i) (by simpa using hlt))
  unfold isDg at hdg
  have htk := List.take_succ_eq_append_getElem (l := s.data.toList) (i := i) (by simpa using hlt)
  generalize s.data.toList[i]'(by simpa using hlt) = b at *
  have hp1 := hpw (i - fr) (by omega)
  have hps : (10 : Int) ^ (i + 1 - fr) = 10 ^ (i - fr) * 10 := by rw [show i + 1 - fr = (i - fr) + 1 by omega, Int.pow_succ]
  have h' := ih (i + 1) (10 * x + ((b.toNat : Int) - 48)) (by omega) (by omega) (by omega) (by omega) (by
   rw [hps]
   generalize (10 : Int) ^ (i - fr) = q at *
   omega) (by
   rw [htk, valD_snoc, hps, show ((10 * valD (s.data.toList.take i) + (b.toNat - 48) : Nat) : Int) = 10 * ((valD (s.data.toList.take i) : Nat) : Int) + ((b.toNat : Int) - 48) by omega, hv]
   grind) hc
  refine Ev.step (fun k => ?_) h'
  simp only [spec_l06Limbs.l1]
  rw [if_pos (by omega), if_pos (by omega), if_pos (by omega), hb, w64 (x := 10 * x) (by omega) (by omega), w64 (x := (b.toNat : Int)) (by omega) (by omega), w64 (x := 10 * x + (b.toNat : Int)) (by omega) (by omega), w64 (x := 10 * x + (b.toNat : Int) - 48) (by omega) (by omega), w64s (by omega),
   show 10 * x + (b.toNat : Int) - 48 = 10 * x + ((b.toNat : Int) - 48) by omega]
theorem spec_limbs_l0 (s : ByteArray) (hs : s.size ≤ 100000) (hd : ∀ b ∈ s.data.toList, isDg b) : ∀ (n e : Nat) (out : List Int), e ≤ 9 * n → e ≤ s.size → out.length ≤ 12000 → out.length * 9 + e ≤ s.size + 9 → (∀ x ∈ out, 0 ≤ x ∧ x < E9) → ((valD s.data.toList : Nat) : Int) = valI E9 out + E9 ^ out.length * ((valD (s.data.toList.take e) : Nat) : Int) →
  ∃ L : List Int, (∀ z : Int, z = (e : Int) → Ev (fun k => spec_l06Limbs.l0 k s out z) L) ∧ (∀ x ∈ L, 0 ≤ x ∧ x < E9) ∧ valI E9 L = ((valD s.data.toList : Nat) : Int) ∧ L.length ≤ out.length + (e + 8) / 9 ∧ (1 ≤ e → (e + 8) / 9 + out.length ≤ L.length) := by
 intro n
 have hzero : ∀ (out : List Int), (∀ z : Int, z ≤ 0 → Ev (fun k => spec_l06Limbs.l0 k s out z) out) := by
  intro out z hz
  exact Ev.step (f := fun _ => some out) (fun k => by simp only [spec_l06Limbs.l0]; rw [if_neg (by omega)]) (Ev.now _)
 induction n with
 | zero =>
  intro e out he _ _ _ ho hv
  obtain rfl : e = 0 := by omega
  refine ⟨out, fun z hz => hzero out z (by omega), ho, ?_, by omega, by omega⟩
  rw [hv]; simp [valD]
 | succ n ih =>
  intro e out he hes hol hbal ho hv
  by_cases h0 : e = 0
  ·subst h0
   refine ⟨out, fun z hz => hzero out z (by omega), ho, ?_, by omega, by omega⟩
   rw [hv]; simp [valD]
  ·-- one more limb
   have hj : ∀ (k : Nat) (fr : Int), spec_l06Limbs.j1 (k + 1) s out (e : Int) fr = spec_l06Limbs.l1 k s out (e : Int) 0 fr := fun _ _ => rfl
   by_cases h9 : e < 9
   ·-- the last one
    have hy : ((valD (s.data.toList.take e) : Nat) : Int) < E9 := by
     have h1 := valD_lt (s.data.toList.take e) (fun b hb => hd b (List.mem_of_mem_take hb))
     have h2 : (s.data.toList.take e).length = e := by rw [List.length_take, size_data]; omega
     rw [h2] at h1
     have := Nat.pow_le_pow_right (n := 10) (by omega) (show e ≤ 9 by omega)
     unfold E9; omega
    refine ⟨out ++ [((valD (s.data.toList.take e) : Nat) : Int)], ?_, ?_, ?_, ?_, ?_⟩
    ·intro z hz
     subst hz
     have h1 := spec_limbs_l1 s hs hd out (by omega) e 0 (by omega) hes (by omega) (out ++ [((valD (s.data.toList.take e) : Nat) : Int)]) e 0 0 (by omega) (by omega) (by omega) (by omega) (by show (0 : Int) < 10 ^ (0 - 0); decide) (by simp [valD]) (by
      intro y _ _ hy3
      have : y = ((valD (s.data.toList.take e) : Nat) : Int) := by
       rw [hy3]; simp [valD]
      rw [this]
      exact hzero _ _ (by omega))
     exact Ev.step (f := fun k => spec_l06Limbs.j1 k s out (e : Int) 0) (fun k => by simp only [spec_l06Limbs.l0]; rw [if_pos (by omega), w64 (by omega) (by omega), if_pos (by omega)]) (Ev.step (fun k => by rw [hj]; rfl) h1)
    ·intro x hx
     rcases List.mem_append.1 hx with h | h
     ·exact ho x h
     ·rw [List.mem_singleton.1 h]; exact ⟨by omega, hy⟩
    ·rw [valI_append, hv]; simp [valI]
    ·simp; omega
    ·intro _; simp; omega
   ·-- nine figures
    obtain ⟨c, rfl⟩ : ∃ c, e = c + 9 := ⟨e - 9, by omega⟩
    have hE : (10 : Int) ^ (c + 9 - c) = E9 := by rw [show c + 9 - c = 9 by omega]; rfl
    -- the limb itself
    obtain ⟨y, hy0, hy1, hyv⟩ : ∃ y : Int, 0 ≤ y ∧ y < E9 ∧ ((valD (s.data.toList.take (c + 9)) : Nat) : Int) = E9 * ((valD (s.data.toList.take c) : Nat) : Int) + y := by
     have hsp : s.data.toList.take (c + 9) = s.data.toList.take c ++ (s.data.toList.drop c).take 9 := by rw [List.take_add]
     have hlen : ((s.data.toList.drop c).take 9).length = 9 := by rw [List.length_take, List.length_drop, size_data]; omega
     have hdg2 : ∀ b ∈ (s.data.toList.drop c).take 9, isDg b := fun b hb => hd b (List.mem_of_mem_drop (List.mem_of_mem_take hb))
     refine ⟨((valD ((s.data.toList.drop c).take 9) : Nat) : Int), by omega, ?_, ?_⟩
     ·have := valD_lt _ hdg2
      rw [hlen] at this
      unfold E9; omega
     ·rw [hsp]
      have h1 : valD (s.data.toList.take c ++ (s.data.toList.drop c).take 9) = valD (s.data.toList.take c) * 10 ^ 9 + valD ((s.data.toList.drop c).take 9) := by
       have := valD_foldl ((s.data.toList.drop c).take 9) (valD (s.data.toList.take c))
       rw [hlen] at this
       rw [← this]
       show valD _ = _
       unfold valD
       rw [List.foldl_append]
      rw [h1]
      unfold E9
      omega
    have hvn : ((valD s.data.toList : Nat) : Int) = valI E9 (out ++ [y]) + E9 ^ (out ++ [y]).length * ((valD (s.data.toList.take c) : Nat) : Int) := by
     rw [hv, valI_append, hyv]
     simp only [valI, List.length_append, List.length_cons, List.length_nil, Nat.zero_add, Int.pow_succ]
     grind
    obtain ⟨L, h1, h2, h3, h4, h5⟩ := ih c (out ++ [y]) (by omega) (by omega) (by simp; omega) (by simp; omega) (by
     intro x hx
     rcases List.mem_append.1 hx with h | h
     ·exact ho x h
     ·rw [List.mem_singleton.1 h]; exact ⟨hy0, hy1⟩) hvn
    refine ⟨L, ?_, h2, h3, ?_, ?_⟩
    ·intro z hz
     subst hz
     have hl1 := spec_limbs_l1 s hs hd out (by omega) (c + 9) c (by omega) hes (by omega) L (c + 9 - c) c 0 (by omega) (by omega) (by omega) (by omega) (by rw [Nat.sub_self]; decide) (by rw [Nat.sub_self]; simp) (by
      intro y' _ _ hy3
      rw [hE, hyv] at hy3
      have : y' = y := by omega
      rw [this]
      exact h1 _ (by omega))
     refine Ev.step (f := fun k => spec_l06Limbs.j1 k s out ((c + 9 : Nat) : Int) (c : Int)) (fun k => ?_) (Ev.step (fun k => by rw [hj]) hl1)
     simp only [spec_l06Limbs.l0]
     rw [if_pos (by omega), w64 (by omega) (by omega), if_neg (by omega), show ((c + 9 : Nat) : Int) - 9 = (c : Int) by omega]
    ·simp at h4; omega
    ·intro _
     by_cases hc : 1 ≤ c
     ·have := h5 hc; simp at this; omega
     ·have hlL : out.length + 1 ≤ L.length := by
       have hc0 : c = 0 := by omega
       subst hc0
       have hle : (out ++ [y]).length = out.length + 1 := by simp
       have := h1 0 rfl
       have hz := hzero (out ++ [y]) 0 (by omega)
       obtain ⟨K1, hK1⟩ := this
       obtain ⟨K2, hK2⟩ := hz
       have q1 := hK1 (max K1 K2) (by omega)
       have q2 := hK2 (max K1 K2) (by omega)
       have : L = out ++ [y] := by rw [q1] at q2; exact Option.some.inj q2
       rw [this, hle]
       omega
      omega
theorem spec_limbs (s : ByteArray) (hs : s.size ≤ 100000) (hd : ∀ b ∈ s.data.toList, isDg b) :
  ∃ L : List Int, Ev (fun k => spec_l06Limbs.f k s) L ∧ (∀ x ∈ L, 0 ≤ x ∧ x < E9) ∧ valI E9 L = ((valD s.data.toList : Nat) : Int) ∧ L.length ≤ (s.size + 8) / 9 ∧ (1 ≤ s.size → (s.size + 8) / 9 ≤ L.length) := by
 obtain ⟨L, h1, h2, h3, h4, h5⟩ := spec_limbs_l0 s hs hd s.size s.size [] (by omega) (by omega) (by simp) (by simp) (by simp) (by rw [List.take_of_length_le (by rw [size_data]; omega)]; simp [valI])
 refine ⟨L, ?_, h2, h3, by simpa using h4, by simpa using h5⟩
 unfold spec_l06Limbs.f
 exact h1 _ rfl
theorem spec_add_l0 (A C : List Int) (hA : ∀ x ∈ A, 0 ≤ x ∧ x < E9) (hC : ∀ x ∈ C, 0 ≤ x ∧ x < E9) (hlA : A.length ≤ 2000) (hlC : C.length ≤ 2000) : ∀ (d i : Nat) (out : List Int) (c : Int), 2001 - i = d → i ≤ 2001 → out.length = i → (∀ x ∈ out, 0 ≤ x ∧ x < E9) → (c = 0 ∨ c = 1) → valI E9 out + E9 ^ i * c = valI E9 (A.take i) + valI E9 (C.take i) → (i = 2001 → c = 0) →
  ∃ L : List Int, Ev (fun k => spec_l06Add.l0 k A C out c (i : Int)) L ∧ (∀ x ∈ L, 0 ≤ x ∧ x < E9) ∧ valI E9 L = valI E9 A + valI E9 C ∧ L.length ≤ 2001 := by
 have hl : ∀ (k : Nat) (out : List Int) (c : Int) (i : Nat), spec_l06Add.l0 (k + 1) A C out c (i : Int) = if (i : Int) < (A.length : Int) then (spec_l06Add.j1 k A C out c (i : Int) true) else (if (i : Int) < (C.length : Int) then (spec_l06Add.j1 k A C out c (i : Int) true) else (spec_l06Add.j1 k A C out c (i : Int) (decide (c > 0)))) := fun _ _ _ _ => rfl
 have hj : ∀ (k : Nat) (out : List Int) (c : Int) (i : Nat) (z : Bool), spec_l06Add.j1 (k + 1) A C out c (i : Int) z = if z = true then ((spec_l06At.f A (i : Int)).bind fun t118 => ((spec_l06At.f C (i : Int)).bind fun t119 => (if out.length < 17592186044416 then (spec_l06Add.l0 k A C (out ++ [Int.tmod (wrap64 ((wrap64 (t118 + t119)) + c)) 1000000000]) (wrap64 (Int.tdiv (wrap64 ((wrap64 (t118 + t119)) + c)) 1000000000)) (wrap64 ((i : Int) + 1))) else (none)))) else (some out) := fun _ _ _ _ _ => rfl
 have hstop : ∀ (i : Nat) (out : List Int), out.length = i → i ≤ 2001 → (∀ x ∈ out, 0 ≤ x ∧ x < E9) → ¬ i < A.length → ¬ i < C.length → valI E9 out + E9 ^ i * 0 = valI E9 (A.take i) + valI E9 (C.take i) →
   ∃ L : List Int, Ev (fun k => spec_l06Add.l0 k A C out 0 (i : Int)) L ∧ (∀ x ∈ L, 0 ≤ x ∧ x < E9) ∧ valI E9 L = valI E9 A + valI E9 C ∧ L.length ≤ 2001 := by
  intro i out hol hi2 ho h1 h2 hv
  rw [List.take_of_length_le (by omega), List.take_of_length_le (by omega), Int.mul_zero, Int.add_zero] at hv
  refine ⟨out, ?_, ho, hv, by omega⟩
  exact Ev.step (f := fun k => spec_l06Add.j1 k A C out 0 (i : Int) false) (fun k => by rw [hl, if_neg (by omega), if_neg (by omega)]; rfl) (Ev.step (f := fun _ => some out) (fun k => by rw [hj, if_neg (by simp)]) (Ev.now _))
 intro d
 induction d with
 | zero =>
  intro i out c hd hi hol ho hc hv hz
  have hi' : i = 2001 := by omega
  obtain rfl := hz hi'
  exact hstop i out hol hi ho (by omega) (by omega) hv
 | succ d ih =>
  intro i out c hd hi hol ho hc hv hz
  by_cases hstp : i < A.length ∨ i < C.length ∨ c = 1
  ·have ha := getD_range E9 (by decide) A hA i
   have hcc := getD_range E9 (by decide) C hC i
   have hE : E9 = 1000000000 := rfl
   generalize hx : A.getD i 0 + C.getD i 0 + c = x
   have hx0 : 0 ≤ x ∧ x < 2000000000 := by omega
   have hvA := valI_take_succ' E9 A i
   have hvC := valI_take_succ' E9 C i
   obtain ⟨L, h1, h2⟩ := ih (i + 1) (out ++ [x % 1000000000]) (x / 1000000000) (by omega) (by omega) (by simp; omega) (by
    intro y hy
    rcases List.mem_append.1 hy with h | h
    ·exact ho y h
    ·rw [List.mem_singleton.1 h]; omega) (by omega) (by
    rw [valI_append, hol, hvA, hvC, Int.pow_succ]
    simp only [valI]
    have hxx : x = 1000000000 * (x / 1000000000) + x % 1000000000 := by omega
    rw [hE] at hv ⊢
    generalize (1000000000 : Int) ^ i = P at hv ⊢
    have q1 : P * x = P * A.getD i 0 + P * C.getD i 0 + P * c := by rw [← hx, Int.mul_add, Int.mul_add]
    have q2 : P * x = 1000000000 * (P * (x / 1000000000)) + P * (x % 1000000000) := by
     conv => lhs; rw [hxx]
     rw [Int.mul_add, Int.mul_left_comm]
    have q3 : P * 1000000000 * (x / 1000000000) = 1000000000 * (P * (x / 1000000000)) := by rw [Int.mul_assoc, Int.mul_left_comm]
    rw [Int.mul_zero, Int.add_zero, q3]
    omega) (by
    intro h
    have hAi : A.getD i 0 = 0 := getD_out A i (by omega)
    have hCi : C.getD i 0 = 0 := getD_out C i (by omega)
    omega)
   refine ⟨L, ?_, h2⟩
   have hstep : ∀ k, spec_l06Add.l0 (k + 1) A C out c (i : Int) = spec_l06Add.j1 k A C out c (i : Int) true := by
    intro k
    rw [hl]
    by_cases h3 : i < A.length
    ·rw [if_pos (by omega)]
    ·rw [if_neg (by omega)]
     by_cases h4 : i < C.length
     ·rw [if_pos (by omega)]
     ·rw [if_neg (by omega), decide_eq_true (by omega)]
   refine Ev.step hstep (Ev.step (fun k => ?_) h1)
   rw [hj, if_pos rfl, spec_at, spec_at]
   simp only [Option.bind_some]
   rw [if_pos (by omega), w64 (x := A.getD i 0 + C.getD i 0) (by omega) (by omega), hx, w64 (x := x) (by omega) (by omega), tmodN hx0.1, tdivN hx0.1, w64 (x := x / 1000000000) (by omega) (by omega), w64s (by omega)]
  ·obtain rfl : c = 0 := by omega
   exact hstop i out hol hi ho (by omega) (by omega) hv
theorem spec_add (A C : List Int) (hA : ∀ x ∈ A, 0 ≤ x ∧ x < E9) (hC : ∀ x ∈ C, 0 ≤ x ∧ x < E9) (hlA : A.length ≤ 2000) (hlC : C.length ≤ 2000) :
  ∃ L : List Int, Ev (fun k => spec_l06Add.f k A C) L ∧ (∀ x ∈ L, 0 ≤ x ∧ x < E9) ∧ valI E9 L = valI E9 A + valI E9 C ∧ L.length ≤ 2001 := by
 unfold spec_l06Add.f
 exact spec_add_l0 A C hA hC hlA hlC 2001 0 [] 0 rfl (by omega) rfl (by simp) (.inl rfl) (by simp [valI]) (by omega)
theorem fig_limbs (a : ByteArray) (h : figOk a = true) : ∃ L : List Int, Ev (fun k => spec_l06Limbs.f k a) L ∧ (∀ x ∈ L, 0 ≤ x ∧ x < E9) ∧ valI E9 L = ((valD a.data.toList : Nat) : Int) ∧ L.length = (a.size + 8) / 9 ∧ L.length ≤ 89 ∧ 1 ≤ L.length := by
 obtain ⟨a1, a2, a3, _⟩ := figOk_parts a h
 obtain ⟨L, h1, h2, h3, h4, h5⟩ := spec_limbs a (by omega) a3
 have := h5 a1
 exact ⟨L, h1, h2, h3, by omega, by omega, by omega⟩
def addG (a b : ByteArray) : ByteArray × Bool := if figOk a = true ∧ figOk b = true then fitsT (valD a.data.toList + valD b.data.toList) else (⟨#[]⟩, false)
theorem spec_greatAdd (a b : ByteArray) (hsa : a.size ≤ 140737488351232) (hsb : b.size ≤ 140737488351232) : Ev (fun k => spec_GreatAdd.f k a b) (addG a b) := by
 have hj : ∀ (k : Nat) (z : Bool), spec_GreatAdd.j0 (k + 1) a b z = if z = true then (some ((⟨#[]⟩ : ByteArray), false)) else ((spec_l06Limbs.f k a).bind fun t125 => ((spec_l06Limbs.f k b).bind fun t128 => ((spec_l06Add.f k t125 t128).bind fun t131 => ((spec_l06Text.f k t131).bind fun t134 => ((spec_l06Fits.f t134).bind fun bt135 => (some (bt135.1, bt135.2))))))) := fun _ _ => rfl
 have hbad : addG a b = (⟨#[]⟩, false) → Ev (fun k => spec_GreatAdd.j0 k a b true) (addG a b) := by
  intro h; rw [h]
  exact Ev.step (f := fun _ => some (⟨#[]⟩, false)) (fun k => by rw [hj, if_pos rfl]) (Ev.now _)
 unfold spec_GreatAdd.f
 refine Ev.bind (spec_fig a hsa) ?_
 by_cases h1 : figOk a = true
 ·simp only [h1, if_true]
  refine Ev.bind (spec_fig b hsb) ?_
  by_cases h2 : figOk b = true
  ·rw [h2]
   have e : addG a b = fitsT (valD a.data.toList + valD b.data.toList) := by unfold addG; rw [if_pos ⟨h1, h2⟩]
   obtain ⟨A, hA, hA9, hAv, _, hAl, _⟩ := fig_limbs a h1
   obtain ⟨C, hC, hC9, hCv, _, hCl, _⟩ := fig_limbs b h2
   obtain ⟨L, hL, hL9, hLv, hLl⟩ := spec_add A C hA9 hC9 (by omega) (by omega)
   have ht := spec_text L (by omega) hL9
   rw [hLv, hAv, hCv, show (((valD a.data.toList : Nat) : Int) + ((valD b.data.toList : Nat) : Int)).toNat = valD a.data.toList + valD b.data.toList by omega] at ht
   rw [e]
   refine Ev.step (fun k => by rw [hj, if_neg (by simp)]) (Ev.bind hA (Ev.bind hC (Ev.bind hL (Ev.bind ht ?_))))
   rw [spec_fits]
   exact Ev.now _
  ·rw [Bool.not_eq_true] at h2
   rw [h2]
   exact hbad (by unfold addG; rw [if_neg (fun hh => by rw [h2] at hh; exact absurd hh.2 (by simp))])
 ·simp only [if_neg h1]
  exact hbad (by unfold addG; rw [if_neg (fun hh => h1 hh.1)])
theorem bytesLess_val : ∀ (a b : List UInt8), a.length = b.length → (∀ c ∈ a, isDg c) → (∀ c ∈ b, isDg c) → Op.bytesLess a b = decide (valD a < valD b) := by
 intro a
 induction a with
 | nil =>
  intro b hl _ _
  have : b = [] := List.eq_nil_of_length_eq_zero hl.symm
  subst this; rfl
 | cons x a ih =>
  intro b hl ha hb
  cases b with
  | nil => simp at hl
  | cons y b =>
   have hx := ha x (by simp)
   have hy := hb y (by simp)
   have hl' : a.length = b.length := by simpa using hl
   have h1 := ih b hl' (fun c hc => ha c (by simp [hc])) (fun c hc => hb c (by simp [hc]))
   have v1 := valD_lt a (fun c hc => ha c (by simp [hc]))
   have v2 := valD_lt b (fun c hc => hb c (by simp [hc]))
   rw [valD_cons, valD_cons, ← hl']
   rw [← hl'] at v2
   unfold isDg at hx hy
   unfold Op.bytesLess
   generalize 10 ^ a.length = p at *
   by_cases hlt : x.toNat < y.toNat
   ·have h2 : (x.toNat - 48) * p + p ≤ (y.toNat - 48) * p := by
     have : (x.toNat - 48 + 1) * p ≤ (y.toNat - 48) * p := Nat.mul_le_mul_right _ (by omega)
     rw [Nat.add_mul, Nat.one_mul] at this
     exact this
    have h3 : x < y := by rw [UInt8.lt_iff_toNat_lt]; exact hlt
    have hd : decide ((x.toNat - 48) * p + valD a < (y.toNat - 48) * p + valD b) = true := decide_eq_true (by omega)
    rw [hd, decide_eq_true h3]; rfl
   ·by_cases heq : x = y
    ·subst heq
     have hd : decide ((x.toNat - 48) * p + valD a < (x.toNat - 48) * p + valD b) = decide (valD a < valD b) := decide_eq_decide.mpr (by omega)
     have h3 : ¬ x < x := by rw [UInt8.lt_iff_toNat_lt]; omega
     rw [hd, decide_eq_false h3, beq_self_eq_true, h1]; rfl
    ·have hgt : y.toNat < x.toNat := by
      have : x.toNat ≠ y.toNat := fun h => heq (UInt8.toNat_inj.mp h)
      omega
     have h2 : (y.toNat - 48) * p + p ≤ (x.toNat - 48) * p := by
      have : (y.toNat - 48 + 1) * p ≤ (x.toNat - 48) * p := Nat.mul_le_mul_right _ (by omega)
      rw [Nat.add_mul, Nat.one_mul] at this
      exact this
     have h3 : ¬ x < y := by rw [UInt8.lt_iff_toNat_lt]; exact hlt
     have hd : decide ((x.toNat - 48) * p + valD a < (y.toNat - 48) * p + valD b) = false := decide_eq_false (by omega)
     rw [hd, decide_eq_false h3, beq_eq_false_iff_ne.mpr heq]; rfl
theorem decN_figOk (v : Nat) (h : (decN v).size ≤ 800) : figOk (decN v) = true := by rw [figOk_decN, decide_eq_true h]
theorem decN_first (v : Nat) (h : v ≠ 0) : bt (decN v) 0 ≠ 48 := by
 intro h48
 have h1 := decN_lead v
 have h2 : (decN v).size = 1 := by
  have h3 := decN_pos v
  rcases Nat.lt_or_ge 1 (decN v).size with h4 | h4
  ·exact absurd ⟨h48, h4⟩ h1
  ·omega
 have h5 : v < 10 ^ 1 := (decN_size v 1 (by omega)).1 (by omega)
 have h6 := decN_data v
 rw [if_neg h, dgL_pos v h, show v / 10 = 0 by omega, dgL_zero, List.nil_append] at h6
 have h7 := bt_list (decN v) 0 (by omega)
 have h8 : (decN v).data.toList[0]? = some (UInt8.ofNat (48 + v % 10)) := by rw [h6]; rfl
 rw [List.getElem?_eq_getElem (by rw [size_data]; omega)] at h8
 rw [Option.some.inj h8] at h7
 have h9 : (UInt8.ofNat (48 + v % 10)).toNat = 48 + v % 10 := by simp; omega
 rw [h9] at h7
 have h10 : bt (decN v) ((0 : Nat) : Int) = 48 := h48
 omega
theorem nearOk_decN {v : Nat} {E : Int} (h0 : v ≠ 0) (h1 : (decN v).size ≤ 60) (h2 : -500 ≤ E) (h3 : E ≤ 500) : nearOk (decN v) E = true := by
 unfold nearOk
 rw [decN_figOk v (by omega), decide_eq_true h1, decide_eq_true ⟨h2, h3⟩, decide_eq_false (decN_first v h0)]; rfl
theorem decN_end (v : Nat) (h : v ≠ 0) : bt (decN v) (((decN v).size - 1 : Nat) : Int) = 48 + ((v % 10 : Nat) : Int) := by
 have h1 := decN_pos v
 rw [bt_list (decN v) ((decN v).size - 1) (by omega)]
 have hd : (decN v).data.toList = dgL (v / 10) ++ [UInt8.ofNat (48 + v % 10)] := by rw [decN_data, if_neg h, dgL_pos v h]
 have hl : (dgL (v / 10)).length = (decN v).size - 1 := by
  have := congrArg List.length hd
  rw [List.length_append, size_data] at this
  simp at this
  omega
 have he : (decN v).data.toList[(decN v).size - 1]? = some (UInt8.ofNat (48 + v % 10)) := by
  rw [hd, List.getElem?_append_right (by omega), hl, Nat.sub_self]; rfl
 rw [List.getElem?_eq_getElem (by rw [size_data]; omega)] at he
 rw [Option.some.inj he]
 have : (UInt8.ofNat (48 + v % 10)).toNat = 48 + v % 10 := by simp; omega
 rw [this]; omega
def tailL : Nat → Nat → List UInt8
 | 0, _ => []
 | t + 1, U => tailL t (U / 10) ++ [UInt8.ofNat (48 + U % 10)]
theorem tailL_succ (t U : Nat) : tailL (t + 1) U = tailL t (U / 10) ++ [UInt8.ofNat (48 + U % 10)] := rfl
theorem tail_len : ∀ t U, (tailL t U).length = t
 | 0, _ => rfl
 | t + 1, U => by unfold tailL; rw [List.length_append, tail_len t]; rfl
theorem tail_dg : ∀ t U, ∀ b ∈ tailL t U, isDg b
  | 0, _, b, hb => by cases hb
  | t + 1, U, b, hb => by
    unfold tailL at hb
    rcases List.mem_append.1 hb with e | e
    · exact tail_dg t _ b e
    · rw [List.mem_singleton.1 e]; unfold isDg
      have : (UInt8.ofNat (48 + U % 10)).toNat = 48 + U % 10 := by simp; omega
      rw [this]; omega
theorem tail_val : ∀ t U, valD (tailL t U) = U % 10 ^ t
  | 0, U => by rw [Nat.pow_zero, Nat.mod_one]; rfl
  | t + 1, U => by
    unfold tailL
    rw [valD_snoc, tail_val t, Nat.pow_succ, Nat.mul_comm (10 ^ t) 10, Nat.mod_mul]
    have : (UInt8.ofNat (48 + U % 10)).toNat = 48 + U % 10 := by simp; omega
    rw [this]; omega
theorem dgL_split : ∀ t U, 10 ^ t ≤ U → dgL U = dgL (U / 10 ^ t) ++ tailL t U
  | 0, U, _ => by rw [Nat.pow_zero, Nat.div_one]; exact (List.append_nil _).symm
  | t + 1, U, h => by
    have hp : 0 < 10 ^ t := Nat.pow_pos (by omega)
    have h1 : 10 ^ t ≤ U / 10 := by
      rw [Nat.le_div_iff_mul_le (by omega), ← Nat.pow_succ]; exact h
    rw [dgL_pos U (by rw [Nat.pow_succ] at h; omega), dgL_split t (U / 10) h1, Nat.div_div_eq_div_mul, ← Nat.pow_succ', tailL_succ, List.append_assoc]
theorem decN_split {t U : Nat} (h : 10 ^ t ≤ U) : (decN U).data.toList = (decN (U / 10 ^ t)).data.toList ++ tailL t U := by
 have hp : 0 < 10 ^ t := Nat.pow_pos (by omega)
 have h1 : 1 ≤ U / 10 ^ t := (Nat.le_div_iff_mul_le hp).2 (by omega)
 rw [decN_data, decN_data, if_neg (by omega), if_neg (by omega)]
 exact dgL_split t U h
def halfL (n : Nat) : List UInt8 := 53 :: List.replicate n 48
theorem zeros_val : ∀ n, valD (List.replicate n 48) = 0
 | 0 => rfl
 | n + 1 => by rw [List.replicate_succ, valD_cons, zeros_val n]; simp
theorem half_val (n : Nat) : valD (halfL n) = 5 * 10 ^ n := by
 unfold halfL
 rw [valD_cons, zeros_val, List.length_replicate]; rfl
theorem half_dg (n : Nat) : ∀ b ∈ halfL n, isDg b := by
 intro b hb
 unfold halfL at hb
 rcases List.mem_cons.1 hb with e | e
 ·rw [e]; exact ⟨by decide, by decide⟩
 ·rw [List.eq_of_mem_replicate e]; exact ⟨by decide, by decide⟩
theorem half_len (n : Nat) : (halfL n).length = n + 1 := by unfold halfL; simp
theorem valD_inj (a b : List UInt8) (hl : a.length = b.length) (ha : ∀ c ∈ a, isDg c) (hb : ∀ c ∈ b, isDg c) (h : valD a = valD b) : a = b := by
 have h1 := bytesLess_swap a b
 rw [bytesLess_val a b hl ha hb, bytesLess_val b a hl.symm hb ha, h, decide_eq_false (Nat.lt_irrefl _)] at h1
 simpa using h1
theorem long_l0 (n : Nat) (hn : n ≤ 100000) : ∀ (d j : Nat), n - j = d → j ≤ n →
  Ev (fun k => spec_l01Long.l0 k (n : Int) 48 (List.replicate j 48 ++ List.replicate (n - j) 0) (j : Int)) (strOfNums (List.replicate n 48)) := by
 have hr : ∀ (k j : Nat) (T : List Int), spec_l01Long.l0 (k + 1) (n : Int) 48 T (j : Int) = if (j : Int) < (n : Int) then (if 0 ≤ (j : Int) then (if (j : Int) < (T.length : Int) then (spec_l01Long.l0 k (n : Int) 48 (T.set (j : Int).toNat 48) (wrap64 ((j : Int) + 1))) else (none)) else (none)) else (some (strOfNums T)) := fun _ _ _ => rfl
 intro d
 induction d with
 | zero =>
  intro j hd hj
  obtain rfl : j = n := by omega
  refine Ev.step (fun k => hr k ..) (ev_else (by omega) ?_)
  rw [Nat.sub_self]
  simp only [List.replicate_zero, List.append_nil]
  exact Ev.now _
 | succ d ih =>
  intro j hd hj
  refine Ev.step (fun k => hr k ..) (ev_if (by omega) (ev_if (by omega) (ev_if (by simp; omega) ?_)))
  rw [w64s (by omega), Int.toNat_natCast]
  have h1 := ih (j + 1) (by omega) (by omega)
  have h2 : (List.replicate j (48 : Int) ++ List.replicate (n - j) 0).set j 48 = List.replicate (j + 1) 48 ++ List.replicate (n - (j + 1)) 0 := by
   rw [show n - j = (n - (j + 1)) + 1 by omega, List.replicate_succ, List.set_append_right _ _ (by simp)]
   simp [List.replicate_succ']
  rw [h2]
  exact h1
theorem spec_long48 (n : Nat) (hn : n ≤ 100000) : Ev (fun k => spec_l01Long.f k (n : Int) 48) ⟨(List.replicate n 48).toArray⟩ := by
 have h := long_l0 n hn n 0 (by omega) (by omega)
 have e : strOfNums (List.replicate n 48) = ⟨(List.replicate n 48).toArray⟩ := by
  apply decN_ext
  rw [str_data, List.map_replicate]; rfl
 rw [e] at h
 unfold spec_l01Long.f
 refine ev_if (by omega) (ev_if (by rw [Int.toNat_natCast]; omega) ?_)
 rw [Int.toNat_natCast]
 simpa using h
theorem ten_apart : ∀ (j i u v : Nat), u * 10 ^ j = v * 10 ^ i → u % 10 ≠ 0 → v % 10 ≠ 0 → u = v ∧ j = i := by
 have hp : ∀ n : Nat, 0 < 10 ^ n := fun n => Nat.pow_pos (by omega)
 have key : ∀ (d j u v : Nat), u * 10 ^ j = v * 10 ^ (j + d) → u % 10 ≠ 0 → d = 0 := by
  intro d j u v h hu
  cases d with
  | zero => rfl
  | succ d =>
   exfalso
   rw [Nat.pow_add, Nat.mul_comm (10 ^ j), ← Nat.mul_assoc] at h
   have h1 := Nat.eq_of_mul_eq_mul_right (hp j) h
   rw [Nat.pow_succ, ← Nat.mul_assoc] at h1
   omega
 intro j i u v h hu hv
 have hji : j = i := by
  rcases Nat.le_total j i with h1 | h1
  ·have := key (i - j) j u v (by rw [show j + (i - j) = i by omega]; exact h) hu; omega
  ·have := key (j - i) i v u (by rw [show i + (j - i) = j by omega]; exact h.symm) hv; omega
 subst hji
 exact ⟨Nat.eq_of_mul_eq_mul_right (hp j) h, rfl⟩
theorem ahead_l0 : ∀ (n v : Nat) (e : Int), v ≤ n → v ≠ 0 → (decN v).size ≤ 5000 → -5000 ≤ e → e ≤ 10000 - (decN v).size → ∃ (u j : Nat), v = u * 10 ^ j ∧ u % 10 ≠ 0 ∧ Ev (fun k => spec_l07Ahead.l0 k (decN v) e) (decN u, e + j) := by
 have hl : ∀ (k : Nat) (e : Int) (s : ByteArray), spec_l07Ahead.l0 (k + 1) s e = if (s.size : Int) > 1 then (if 0 ≤ (wrap64 ((s.size : Int) - 1)) then (if (wrap64 ((s.size : Int) - 1)) < (s.size : Int) then (if (bt s (wrap64 ((s.size : Int) - 1))) = 48 then (if (wrap64 ((s.size : Int) - 1)) ≤ (s.size : Int) then (spec_l07Ahead.l0 k (s.extract 0 ((wrap64 ((s.size : Int) - 1)) : Int).toNat) (wrap64 (e + 1))) else (none)) else (some (s, e))) else (none)) else (none)) else (some (s, e)) := fun _ _ _ => rfl
 intro n
 induction n with
 | zero => intro v e h1 h2; omega
 | succ n ih =>
  intro v e h1 h2 hs he he2
  by_cases h10 : v < 10
  ·have h3 := decN_one v h10
   refine ⟨v, 0, by rw [Nat.pow_zero, Nat.mul_one], by omega, ?_⟩
   rw [show e + ((0 : Nat) : Int) = e by omega]
   exact Ev.step (fun k => hl k e _) (ev_else (by omega) (Ev.now _))
  ·have h3 := decN_more v (by omega)
   have h4 := decN_last v (by omega)
   have h5 := decN_cut v (by omega)
   have hw : wrap64 (((decN v).size : Int) - 1) = (((decN v).size - 1 : Nat) : Int) := by rw [w64 (by omega) (by omega)]; omega
   by_cases h0 : v % 10 = 0
   ·have hsz : (decN (v / 10)).size + 1 = (decN v).size := by
     have := congrArg List.length (decN_far v (by omega))
     rw [List.length_append, size_data, size_data] at this
     simp at this
     omega
    obtain ⟨u, j, q1, q2, q3⟩ := ih (v / 10) (e + 1) (by omega) (by omega) (by omega) (by omega) (by omega)
    refine ⟨u, j + 1, by rw [Nat.pow_succ, ← Nat.mul_assoc, ← q1]; omega, q2, ?_⟩
    rw [show e + ((j + 1 : Nat) : Int) = e + 1 + (j : Int) by omega]
    refine Ev.step (fun k => hl k e _) ?_
    rw [hw, Int.toNat_natCast, h5, h4, h0, w64 (x := e + 1) (by omega) (by omega)]
    exact ev_if (by omega) (ev_if (by omega) (ev_if (by omega) (ev_if rfl (ev_if (by omega) q3))))
   ·refine ⟨v, 0, by rw [Nat.pow_zero, Nat.mul_one], h0, ?_⟩
    rw [show e + ((0 : Nat) : Int) = e by omega]
    refine Ev.step (fun k => hl k e _) ?_
    rw [hw, h4]
    exact ev_if (by omega) (ev_if (by omega) (ev_if (by omega) (ev_else (by omega) (Ev.now _))))
theorem spec_ahead {v u j : Nat} {e : Int} (hv : v = 10 ^ j * u) (hu : u % 10 ≠ 0) (hs : (decN v).size ≤ 60) (he : -500 ≤ e) (he2 : e ≤ 500) : Ev (fun k => spec_l07Ahead.f k (decN v) e) (decN u, e + j) := by
 have h0 : v ≠ 0 := fun h => by
  rw [h] at hv
  have h1 : 0 < 10 ^ j * u := Nat.mul_pos (Nat.pow_pos (by omega)) (by omega)
  omega
 obtain ⟨u', j', q1, q2, q3⟩ := ahead_l0 v v e (Nat.le_refl _) h0 (by omega) (by omega) (by omega)
 obtain ⟨rfl, rfl⟩ := ten_apart j j' u u' (by rw [Nat.mul_comm, ← hv, q1]) hu q2
 exact q3
theorem near_word {L y : Nat} {K : Int} (h0 : L ≠ 0) (hs : (decN L).size ≤ 60) (hK : -500 ≤ K) (hK2 : K ≤ 500) : ∃ w : Nat, Ev (fun k => spec_Nearest.f k (decN L) K) (w : Int) ∧ (w = y ↔ HD.Reads y K L) := by
 obtain ⟨w, h1, _, h3⟩ := spec_near (decN L) (by omega) K
 have h4 := h3 (nearOk_decN h0 hs hK hK2)
 rw [valD_decN] at h4
 refine ⟨w, h1, fun h => ?_, fun h => CQ.nearE_one h4 h⟩
 subst h
 exact h4
theorem one_more {L : Nat} (hs : (decN (L + 1)).size ≤ 60) : Ev (fun k => spec_GreatAdd.f k (decN L) (⟨#[49]⟩ : ByteArray)) (decN (L + 1), true) := by
 have hsL : (decN L).size ≤ 60 := (decN_size L 60 (by omega)).2 (by have := (decN_size (L + 1) 60 (by omega)).1 hs; omega)
 have h := spec_greatAdd (decN L) (⟨#[49]⟩ : ByteArray) (by omega) (by decide)
 have e : addG (decN L) (⟨#[49]⟩ : ByteArray) = (decN (L + 1), true) := by
  unfold addG
  rw [if_pos ⟨decN_figOk L (by omega), by decide⟩, valD_decN, show valD (⟨#[49]⟩ : ByteArray).data.toList = 1 from by decide]
  unfold fitsT
  rw [if_pos (by omega)]
 rw [e] at h
 exact h
theorem short_eq0 (k : Nat) (x4 : ByteArray) (x5 x6 x7 : Int) : spec_Shortest.l0 (k + 1) x4 x5 x6 x7 = if x7 ≤ 17 then (spec_Shortest.j1 k x4 x5 x6 x7 (decide (x7 < (x4.size : Int)))) else (spec_Shortest.j1 k x4 x5 x6 x7 false) := rfl
theorem short_eq1 (k : Nat) (x4 : ByteArray) (x5 x6 x7 : Int) (x35 : Bool) : spec_Shortest.j1 (k + 1) x4 x5 x6 x7 x35 = if x35 = true then (if 0 ≤ x7 then (if x7 ≤ (x4.size : Int) then ((spec_GreatAdd.f k (x4.extract 0 (x7 : Int).toNat) (⟨#[49]⟩ : ByteArray)).bind fun p308 => ((spec_l01Long.f k (wrap64 (((x4.extract (x7 : Int).toNat x4.size).size : Int) - 1)) 48).bind fun s310 => (if 1 + s310.size ≤ 9223372036854775807 then ((spec_Nearest.f k (x4.extract 0 (x7 : Int).toNat) (wrap64 ((wrap64 (x5 + (x4.size : Int))) - x7))).bind fun s311 => ((spec_Nearest.f k p308.1 (wrap64 ((wrap64 (x5 + (x4.size : Int))) - x7))).bind fun s312 => (if s311 = x6 then (spec_Shortest.j2 k x4 x5 x6 x7 (x4.extract 0 (x7 : Int).toNat) (wrap64 ((wrap64 (x5 + (x4.size : Int))) - x7)) p308.1 (x4.extract (x7 : Int).toNat x4.size) ((⟨#[53]⟩ : ByteArray) ++ s310) (s311 == x6) (s312 == x6) false) else (spec_Shortest.j2 k x4 x5 x6 x7 (x4.extract 0 (x7 : Int).toNat) (wrap64 ((wrap64 (x5 + (x4.size : Int))) - x7)) p308.1 (x4.extract (x7 : Int).toNat x4.size) ((⟨#[53]⟩ : ByteArray) ++ s310) (s311 == x6) (s312 == x6) (!(s312 == x6)))))) else (none)))) else (none)) else (none)) else (some (x4, x5)) := rfl
theorem short_eq2 (k : Nat) (x4 : ByteArray) (x5 x6 x7 : Int) (x8 : ByteArray) (x9 : Int) (x10 x12 x13 : ByteArray) (x14 x15 x75 : Bool) : spec_Shortest.j2 (k + 1) x4 x5 x6 x7 x8 x9 x10 x12 x13 x14 x15 x75 = if x75 = true then (spec_Shortest.l0 k x4 x5 x6 (wrap64 (x7 + 1))) else (if 0 ≤ (wrap64 (x7 - 1)) then (if (wrap64 (x7 - 1)) < (x8.size : Int) then (if x14 = true then (if x15 = true then (if (Op.bytesLess x13.toList x12.toList) = true then ((spec_l07Ahead.f k x10 x9).bind fun p313 => (some (p313.1, p313.2))) else (if x12.toList = x13.toList then (if (((((bt x8 (wrap64 (x7 - 1))) - 48) % 256) % 2) = 0) then ((spec_l07Ahead.f k x8 x9).bind fun p315 => (some (p315.1, p315.2))) else ((spec_l07Ahead.f k x10 x9).bind fun p317 => (some (p317.1, p317.2)))) else ((spec_l07Ahead.f k x8 x9).bind fun p319 => (some (p319.1, p319.2))))) else ((spec_l07Ahead.f k x8 x9).bind fun p321 => (some (p321.1, p321.2)))) else ((spec_l07Ahead.f k x10 x9).bind fun p323 => (some (p323.1, p323.2)))) else (none)) else (none)) := rfl
open CQ HD in
theorem short_place {U t n y : Nat} {f : Int} (hn : 1 ≤ n) (hn17 : n ≤ 17) (ht : 1 ≤ t) (ht2 : t ≤ 5000) (hs : (decN U).size = n + t) (hf1 : -450 ≤ f + t) (hf2 : f + t ≤ 450) (hf3 : -5000 ≤ f) (hf4 : f ≤ 5000) :
  ∃ a b : Bool, (a = true ↔ Reads y (f + t) (U / 10 ^ t)) ∧ (b = true ↔ Reads y (f + t) (U / 10 ^ t + 1)) ∧
   ∀ r, Ev (fun k => spec_Shortest.j2 k (decN U) f (y : Int) (n : Int) (decN (U / 10 ^ t)) (f + t) (decN (U / 10 ^ t + 1)) ⟨(tailL t U).toArray⟩ ⟨(halfL (t - 1)).toArray⟩ a b (!a && !b)) r → Ev (fun k => spec_Shortest.l0 k (decN U) f (y : Int) (n : Int)) r := by
 have hp : 0 < 10 ^ t := Nat.pow_pos (by omega)
 have hU1 : 10 ^ (n + t - 1) ≤ U := by
  rcases Nat.lt_or_ge U (10 ^ (n + t - 1)) with h | h
  ·have := (decN_size U (n + t - 1) (by omega)).2 h; omega
  ·exact h
 have hU2 : U < 10 ^ (n + t) := (decN_size U (n + t) (by omega)).1 (by omega)
 have hle : 10 ^ t ≤ U := Nat.le_trans (Nat.pow_le_pow_right (by omega) (by omega)) hU1
 have hL1 : 1 ≤ U / 10 ^ t := (Nat.le_div_iff_mul_le hp).2 (by omega)
 have hL2 : U / 10 ^ t < 10 ^ n := by rw [Nat.div_lt_iff_lt_mul hp, ← Nat.pow_add]; exact hU2
 have hL3 : U / 10 ^ t + 1 < 10 ^ (n + 1) := by rw [Nat.pow_succ]; omega
 have hsplit := decN_split hle
 generalize hL : U / 10 ^ t = L at *
 have hsL : (decN L).size ≤ n := (decN_size L n hn).2 hL2
 have hsH : (decN (L + 1)).size ≤ n + 1 := (decN_size (L + 1) (n + 1) (by omega)).2 hL3
 have hsLn : (decN L).size = n := by
  have := congrArg List.length hsplit
  rw [List.length_append, size_data, size_data, tail_len] at this
  omega
 obtain ⟨w1, e1, q1⟩ := near_word (y := y) (L := L) (K := f + t) (by omega) (by omega) (by omega) (by omega)
 obtain ⟨w2, e2, q2⟩ := near_word (y := y) (L := L + 1) (K := f + t) (by omega) (by omega) (by omega) (by omega)
 have hc1 : (decN U).extract 0 ((n : Int)).toNat = decN L := by
  rw [Int.toNat_natCast]
  have h := FT.cut_left hsplit
  rw [size_data, hsLn] at h
  rw [h]
 have hc2 : (decN U).extract ((n : Int)).toNat (decN U).size = ⟨(tailL t U).toArray⟩ := by
  rw [Int.toNat_natCast]
  exact FT.cut_right hsplit (by rw [size_data, hsLn])
 have hsz : (⟨(tailL t U).toArray⟩ : ByteArray).size = t := by
  show (tailL t U).toArray.size = t
  rw [List.size_toArray, tail_len]
 have hw1 : wrap64 ((t : Int) - 1) = ((t - 1 : Nat) : Int) := by rw [w64 (by omega) (by omega)]; omega
 have hw2 : wrap64 (wrap64 (f + ((decN U).size : Int)) - (n : Int)) = f + t := by
  rw [hs, w64 (x := f + ((n + t : Nat) : Int)) (by omega) (by omega), w64 (by omega) (by omega)]; omega
 have hhalf : (⟨#[53]⟩ : ByteArray) ++ ⟨(List.replicate (t - 1) 48).toArray⟩ = ⟨(halfL (t - 1)).toArray⟩ := by
  apply decN_ext
  rw [append_data]
  rfl
 have hlong := spec_long48 (t - 1) (by omega)
 have hls : (⟨(List.replicate (t - 1) 48).toArray⟩ : ByteArray).size = t - 1 := by
  show (List.replicate (t - 1) (48 : UInt8)).toArray.size = t - 1
  simp
 refine ⟨decide ((w1 : Int) = (y : Int)), decide ((w2 : Int) = (y : Int)), ?_, ?_, fun r hr => ?_⟩
 ·rw [decide_eq_true_iff, ← q1]; omega
 ·rw [decide_eq_true_iff, ← q2]; omega
 ·refine Ev.step (fun k => short_eq0 k ..) (ev_if (by omega) ?_)
  rw [decide_eq_true (show (n : Int) < ((decN U).size : Int) by omega)]
  refine Ev.step (fun k => short_eq1 k ..) (ev_if rfl (ev_if (by omega) (ev_if (by omega) ?_)))
  rw [hc1, hc2, hsz, hw1, hw2]
  refine Ev.bind (one_more (L := L) (by omega)) (Ev.bind hlong (ev_if (by rw [hls]; omega) ?_))
  rw [hhalf]
  refine Ev.bind e1 (Ev.bind e2 ?_)
  by_cases hy1 : (w1 : Int) = (y : Int)
  ·refine ev_if hy1 ?_
   rw [decide_eq_true hy1, beq_iff_eq.2 hy1] at *
   exact hr
  ·refine ev_else hy1 ?_
   rw [decide_eq_false hy1, beq_eq_false_iff_ne.2 hy1] at *
   exact hr
open CQ HD in
theorem short_pick {U t n u j : Nat} {f g : Int} (y : Int) {a b : Bool} (hn : 1 ≤ n) (hn17 : n ≤ 17) (ht : 1 ≤ t) (hs : (decN U).size = n + t) (hf1 : -450 ≤ f + t) (hf2 : f + t ≤ 450) (hab : a = true ∨ b = true)
  (hv : HL.takeD a b (U / 10 ^ t) (rneQ U (10 ^ t)) = 10 ^ j * u) (hu : u % 10 ≠ 0) (hg : f + t + j = g) :
  Ev (fun k => spec_Shortest.j2 k (decN U) f y (n : Int) (decN (U / 10 ^ t)) (f + t) (decN (U / 10 ^ t + 1)) ⟨(tailL t U).toArray⟩ ⟨(halfL (t - 1)).toArray⟩ a b (!a && !b)) (decN u, g) := by
 subst hg
 have hp : 0 < 10 ^ t := Nat.pow_pos (by omega)
 have hU1 : 10 ^ (n + t - 1) ≤ U := by
  rcases Nat.lt_or_ge U (10 ^ (n + t - 1)) with h | h
  ·have := (decN_size U (n + t - 1) (by omega)).2 h; omega
  ·exact h
 have hU2 : U < 10 ^ (n + t) := (decN_size U (n + t) (by omega)).1 (by omega)
 have hle : 10 ^ t ≤ U := Nat.le_trans (Nat.pow_le_pow_right (by omega) (by omega)) hU1
 have hL1 : 1 ≤ U / 10 ^ t := (Nat.le_div_iff_mul_le hp).2 (by omega)
 have hL2 : U / 10 ^ t < 10 ^ n := by rw [Nat.div_lt_iff_lt_mul hp, ← Nat.pow_add]; exact hU2
 have hL3 : U / 10 ^ t + 1 < 10 ^ (n + 1) := by rw [Nat.pow_succ]; omega
 have hsplit := decN_split hle
 have hhp : 2 * (5 * 10 ^ (t - 1)) = 10 ^ t := by
  rw [show 2 * (5 * 10 ^ (t - 1)) = 10 ^ (t - 1) * 10 by omega, ← Nat.pow_succ, show (t - 1).succ = t by omega]
 have hml : (U % 10 ^ t) < 10 ^ t := Nat.mod_lt _ hp
 have hsH : (decN (U / 10 ^ t + 1)).size ≤ n + 1 := (decN_size _ (n + 1) (by omega)).2 hL3
 have hsLn : (decN (U / 10 ^ t)).size = n := by
  have := congrArg List.length hsplit
  rw [List.length_append, size_data, size_data, tail_len] at this
  omega
 have hend := decN_end (U / 10 ^ t) (by omega)
 rw [hsLn] at hend
 have hr : rneQ U (10 ^ t) = U / 10 ^ t + if 10 ^ t < 2 * (U % 10 ^ t) ∨ (10 ^ t = 2 * (U % 10 ^ t) ∧ U / 10 ^ t % 2 = 1) then 1 else 0 := rfl
 have hbl := bytesLess_val (halfL (t - 1)) (tailL t U) (by rw [half_len, tail_len]; omega) (half_dg _) (tail_dg _ _)
 have heq : tailL t U = halfL (t - 1) ↔ U % 10 ^ t = 5 * 10 ^ (t - 1) := by
  constructor
  ·intro h
   have := congrArg valD h
   rwa [tail_val, half_val] at this
  ·intro h
   exact valD_inj _ _ (by rw [half_len, tail_len]; omega) (tail_dg _ _) (half_dg _) (by rw [tail_val, half_val]; exact h)
 rw [half_val, tail_val] at hbl
 have hw : wrap64 ((n : Int) - 1) = ((n - 1 : Nat) : Int) := by rw [w64 (by omega) (by omega)]; omega
 have hlow : U / 10 ^ t = 10 ^ j * u → Ev (fun k => spec_l07Ahead.f k (decN (U / 10 ^ t)) (f + t)) (decN u, f + t + j) := fun h => spec_ahead h hu (by omega) (by omega) (by omega)
 have hhigh : U / 10 ^ t + 1 = 10 ^ j * u → Ev (fun k => spec_l07Ahead.f k (decN (U / 10 ^ t + 1)) (f + t)) (decN u, f + t + j) := fun h => spec_ahead h hu (by omega) (by omega) (by omega)
 have hz : (!a && !b) = false := by
  rcases hab with h | h <;> rw [h] <;> simp
 rw [hz]
 refine Ev.step (fun k => short_eq2 k ..) (ev_else (by decide) ?_)
 rw [hw]
 refine ev_if (by omega) (ev_if (by omega) ?_)
 generalize hL : U / 10 ^ t = L at *
 generalize hR : U % 10 ^ t = R at *
 generalize hP : 10 ^ t = P at *
 generalize hH : 5 * 10 ^ (t - 1) = H at *
 unfold HL.takeD at hv
 by_cases ha : a = true
 ·rw [if_pos ha] at hv
  refine ev_if ha ?_
  by_cases hb : b = true
  ·rw [if_pos hb, hr] at hv
   refine ev_if hb ?_
   show Ev (fun k => if (Op.bytesLess (⟨(halfL (t - 1)).toArray⟩ : ByteArray).toList (⟨(tailL t U).toArray⟩ : ByteArray).toList) = true then _ else _) _
   rw [ByteArray.toList_eq, ByteArray.toList_eq]
   by_cases h1 : H < R
   ·rw [if_pos (by left; omega)] at hv
    exact ev_if (by rw [hbl]; exact decide_eq_true h1) (Ev.bind (hhigh hv) (Ev.now _))
   ·refine ev_else (by rw [hbl, decide_eq_false h1]; decide) ?_
    by_cases h2 : R = H
    ·refine ev_if (heq.2 h2) ?_
     rw [hend]
     by_cases h3 : L % 2 = 1
     ·rw [if_pos (by right; omega)] at hv
      exact ev_else (by omega) (Ev.bind (hhigh hv) (Ev.now _))
     ·rw [if_neg (by omega), Nat.add_zero] at hv
      exact ev_if (by omega) (Ev.bind (hlow hv) (Ev.now _))
    ·rw [if_neg (by omega), Nat.add_zero] at hv
     exact ev_else (fun h => h2 (heq.1 h)) (Ev.bind (hlow hv) (Ev.now _))
  ·rw [if_neg hb] at hv
   exact ev_else hb (Ev.bind (hlow hv) (Ev.now _))
 ·rw [if_neg ha] at hv
  exact ev_else ha (Ev.bind (hhigh hv) (Ev.now _))
theorem short_search {U y u : Nat} {f g : Int} (h5 : (decN U).size ≤ 5000) (hf1 : -5000 ≤ f) (hf2 : f ≤ 4000) (hF : HL.Found y U (decN U).size f u g) (hu : u % 10 ≠ 0) : Ev (fun k => spec_Shortest.l0 k (decN U) f (y : Int) 1) (decN u, g) := by
 obtain ⟨hlo, hhi, n, n1, n17, nl, hno, hend⟩ := hF
 have key : ∀ d i : Nat, n - i = d → 1 ≤ i → i ≤ n → Ev (fun k => spec_Shortest.l0 k (decN U) f (y : Int) (i : Int)) (decN u, g) := by
  intro d
  induction d with
  | zero =>
   intro i hd hi hin
   obtain rfl : i = n := by omega
   rcases hend with ⟨e1, e2, e3⟩ | ⟨e1, e4, e3⟩
   ·subst e2 e3
    refine Ev.step (fun k => short_eq0 k ..) (ev_if (by omega) ?_)
    rw [decide_eq_false (show ¬ (i : Int) < ((decN U).size : Int) by omega)]
    exact Ev.step (fun k => short_eq1 k ..) (ev_else (by decide) (Ev.now _))
   ·obtain ⟨t, ht⟩ : ∃ t, (decN U).size = i + t := ⟨(decN U).size - i, by omega⟩
    have hK : f + ((decN U).size : Int) - (i : Int) = f + t := by omega
    rw [hK, show (decN U).size - i = t by omega] at e3
    obtain ⟨a, b, ha, hb, hs⟩ := short_place (y := y) (f := f) hi n17 (show 1 ≤ t by omega) (by omega) ht (by omega) (by omega) (by omega) (by omega)
    obtain ⟨j, hj1, hj2⟩ := e3 a b ha hb
    refine hs _ (short_pick (y : Int) hi n17 (show 1 ≤ t by omega) ht (by omega) (by omega) ?_ hj1 hu hj2)
    rw [hK, show (decN U).size - i = t by omega] at e4
    rcases e4 with h | h
    ·exact .inl (ha.2 h)
    ·exact .inr (hb.2 h)
  | succ d ih =>
   intro i hd hi hin
   obtain ⟨t, ht⟩ : ∃ t, (decN U).size = i + t := ⟨(decN U).size - i, by omega⟩
   have hK : f + ((decN U).size : Int) - (i : Int) = f + t := by omega
   have hn := hno i hi (by omega)
   rw [hK, show (decN U).size - i = t by omega] at hn
   obtain ⟨a, b, ha, hb, hs⟩ := short_place (y := y) (f := f) hi (by omega) (show 1 ≤ t by omega) (by omega) ht (by omega) (by omega) (by omega) (by omega)
   refine hs _ ?_
   have ha' : a = false := by
    cases a with
    | false => rfl
    | true => exact absurd (ha.1 rfl) hn.1
   have hb' : b = false := by
    cases b with
    | false => rfl
    | true => exact absurd (hb.1 rfl) hn.2
   subst ha' hb'
   refine Ev.step (fun k => short_eq2 k ..) (ev_if (by decide) ?_)
   rw [w64s (by omega)]
   exact ih (i + 1) (by omega) (by omega) (by omega)
 exact key (n - 1) 1 rfl (Nat.le_refl _) n1
open SF in
theorem spec_shortest {x M : Nat} {s : Bool} {e : Int} (hx : x < 18446744073709551616) (hr : Ieee.double.read x = .number s M e) (hM : M ≠ 0) :
  Ev (fun k => spec_Shortest.f k (x : Int)) (decN (bestU M e), bestF M e) ∧ bestU M e % 10 ≠ 0 := by
 obtain ⟨_, hM2, he1, he2, hfull, henc, _⟩ := CG.read_num hx hr
 obtain ⟨U, f, q1, q2, q3, q4, q5, q6⟩ := spec_exact hx hr hM hM2 he1 he2
 have hlt : (e + 1074).toNat * 4503599627370496 + M < 9223372036854775808 := by omega
 have hy : x % 9223372036854775808 = (e + 1074).toNat * 4503599627370496 + M := by
  have h := henc
  unfold CR.enc at h
  split at h <;> omega
 have hr2 := CN.read_enc false M e hM2 he1 he2 hfull
 have hen : CR.enc false ((e + 1074).toNat * 4503599627370496 + M) = x % 9223372036854775808 := by
  rw [hy]
  unfold CR.enc
  rw [if_neg (by decide)]
  try omega
 rw [hen] at hr2
 have hw := word_of hx hr hM
 have hpos := decN_pos U
 have hU2 := (decN_size U (decN U).size hpos).1 (Nat.le_refl _)
 have hU0 : U ≠ 0 := fun h => by subst h; exact q2 rfl
 have hU1 : 10 ^ ((decN U).size - 1) ≤ U := by
  rcases Nat.lt_or_ge (decN U).size 2 with h | h
  ·rw [show (decN U).size - 1 = 0 by omega, Nat.pow_zero]; omega
  ·rcases Nat.lt_or_ge U (10 ^ ((decN U).size - 1)) with h1 | h1
   ·have := (decN_size U ((decN U).size - 1) (by omega)).2 h1; omega
   ·exact h1
 have hmax : x % 9223372036854775808 < 9218868437227405312 := by rw [hy]; omega
 obtain ⟨hF, hu⟩ := found_best hw hmax hr2 q2 q5 hpos hU1 hU2
 refine ⟨?_, hu⟩
 have hs := short_search (y := x % 9223372036854775808) q6 (by omega) (by omega) hF hu
 have hmod : Int.tmod (x : Int) 9223372036854775808 = ((x % 9223372036854775808 : Nat) : Int) := by rw [tmodN (by omega)]; omega
 unfold spec_Shortest.f
 refine Ev.bind q1 (ev_else ?_ (Ev.bind spec_pow63 (ev_else (by decide) ?_)))
 ·intro h
  have h1 : (decN U).size = 0 := by
   have h2 := congrArg List.length h
   rw [ByteArray.toList_eq, size_data] at h2
   exact h2
  omega
 ·rw [hmod]
  exact hs
theorem impl_nan (x : Nat) (hx : x < 18446744073709551616) : impl_isNaN.f (x : Int) = some (nanB x) := by
 unfold impl_isNaN.f nanB
 rw [and63 x hx]
 congr 1
 rw [decide_eq_decide]; omega
theorem impl_parts (x : Nat) (hx : x < 18446744073709551616) : Ev (fun k => impl_PartsOfNumber.f k (x : Int)) (partsN x) := by
 unfold impl_PartsOfNumber.f
 rw [impl_nan x hx]
 simp only [Option.bind_some]
 have e1 : wrap64 (Go.bits .and .u64 ((x : Int) / 4503599627370496) 2047) = ((x / 4503599627370496 % 2048 : Nat) : Int) := by
  have h1 := and_u64 (x / 4503599627370496) 2047 (by omega) (by omega)
  rw [show (x / 4503599627370496) &&& 2047 = x / 4503599627370496 % 2048 from mask _ 11] at h1
  rw [show (x : Int) / 4503599627370496 = ((x / 4503599627370496 : Nat) : Int) by omega]
  have h2 : Go.bits .and .u64 (((x / 4503599627370496 : Nat) : Int)) 2047 = ((x / 4503599627370496 % 2048 : Nat) : Int) := h1
  rw [h2, w64 (by omega) (by omega)]
 have e2 : Go.bits .and .u64 (x : Int) 4503599627370495 = ((x % 4503599627370496 : Nat) : Int) := by
  have h1 := and_u64 x 4503599627370495 hx (by omega)
  rw [show x &&& 4503599627370495 = x % 4503599627370496 from mask _ 52] at h1
  exact h1
 have e3 : (((x : Int) / 9223372036854775808) == 1) = decide (9223372036854775808 ≤ x) := by rw [Bool.eq_iff_iff]; simp; omega
 rw [e1, e2, e3]
 generalize hb : decide (9223372036854775808 ≤ x) = b
 have hp : partsN x = if 9218868437227405312 < x % 9223372036854775808 then (1, false, 0, 0)
  else if x % 9223372036854775808 = 9218868437227405312 then (2, b, 0, 0)
  else if x % 9223372036854775808 = 0 then (3, b, 0, 0)
  else if x % 9223372036854775808 < 4503599627370496 then (4, b, ((x % 4503599627370496 : Nat) : Int), -1074)
  else (4, b, ((x % 4503599627370496 + 4503599627370496 : Nat) : Int), ((x / 4503599627370496 % 2048 : Nat) : Int) - 1075) := by unfold partsN; rw [hb]
 rw [hp]
 have hj : ∀ (k : Nat) (f e : Int) (z : Bool), impl_PartsOfNumber.j0 (k + 1) b f e z = if z = true then (some (3, b, 0, 0)) else (if e = 0 then (some (4, b, f, (-1074))) else (some (4, b, Go.bits .or .u64 f 4503599627370496, wrap64 (e - 1075)))) := fun _ _ _ _ => rfl
 by_cases h0 : 9218868437227405312 < x % 9223372036854775808
 ·have : nanB x = true := decide_eq_true h0
  rw [if_pos h0]
  simp only [this, if_true]
  exact Ev.now _
 ·have : nanB x = false := decide_eq_false h0
  rw [if_neg h0]
  simp only [this, Bool.false_eq_true, if_false]
  by_cases h1 : x / 4503599627370496 % 2048 = 2047
  ·simp only [if_pos (show ((x / 4503599627370496 % 2048 : Nat) : Int) = 2047 by omega)]
   rw [if_pos (by omega)]
   exact Ev.now _
  ·simp only [if_neg (show ¬ ((x / 4503599627370496 % 2048 : Nat) : Int) = 2047 by omega)]
   rw [if_neg (by omega)]
   by_cases h2 : x / 4503599627370496 % 2048 = 0
   ·simp only [if_pos (show ((x / 4503599627370496 % 2048 : Nat) : Int) = 0 by omega)]
    by_cases h3 : x % 4503599627370496 = 0
    ·rw [if_pos (by omega)]
     exact Ev.step (f := fun _ => some (3, b, 0, 0)) (fun k => by rw [hj, if_pos (by simp [h3])]) (Ev.now _)
    ·rw [if_neg (by omega), if_pos (by omega)]
     exact Ev.step (f := fun _ => some (4, b, ((x % 4503599627370496 : Nat) : Int), -1074)) (fun k => by rw [hj, if_neg (by simp; omega), if_pos (by omega)]) (Ev.now _)
   ·simp only [if_neg (show ¬ ((x / 4503599627370496 % 2048 : Nat) : Int) = 0 by omega)]
    rw [if_neg (by omega), if_neg (by omega)]
    refine Ev.step (f := fun _ => some (4, b, ((x % 4503599627370496 + 4503599627370496 : Nat) : Int), ((x / 4503599627370496 % 2048 : Nat) : Int) - 1075)) (fun k => ?_) (Ev.now _)
    have e4 : Go.bits .or .u64 ((x % 4503599627370496 : Nat) : Int) 4503599627370496 = ((x % 4503599627370496 + 4503599627370496 : Nat) : Int) := by
     have h4 := or_u64 (x % 4503599627370496) 4503599627370496 (by omega) (by omega)
     have h5 := join 1 (x % 4503599627370496) 52 (by omega)
     rw [Nat.or_comm, show (2 ^ 52 * 1 : Nat) = 4503599627370496 from rfl] at h5
     rw [h5, Nat.add_comm] at h4
     exact h4
    rw [hj, if_neg (by simp), if_neg (by omega), e4, w64 (by omega) (by omega)]
theorem ev_same {α : Type} {g : Nat → Option α} {a b : α} (ha : Ev g a) (hb : Ev g b) : a = b := by
 obtain ⟨i, hi⟩ := ha
 obtain ⟨j, hj⟩ := hb
 exact Option.some.inj ((hi (i + j) (by omega)).symm.trans (hj (i + j) (by omega)))
theorem short_given {x M : Nat} {s : Bool} {e : Int} (hx : x < 18446744073709551616) (hr : Ieee.double.read x = .number s M e) (hM : M ≠ 0) : impl_scientific.f (x : Int) (-1) = some (decN (SF.bestU M e), SF.bestF M e) := by
 unfold impl_scientific.f G.impl_scientific
 rw [if_pos ⟨by omega, by omega, rfl⟩, Int.toNat_natCast]
 unfold G.shortF
 rw [hr]
 exact if_neg hM
theorem impl_short {x M : Nat} {s : Bool} {e : Int} (hx : x < 18446744073709551616) (hr : Ieee.double.read x = .number s M e) (hM : M ≠ 0) : Ev (fun k => impl_Shortest.f k (x : Int)) (decN (SF.bestU M e), SF.bestF M e) := by
 have he := ev_same (parts_is hx hr) (spec_parts x hx)
 have hs := short_given hx hr hM
 unfold impl_Shortest.f
 refine Ev.bind (impl_parts x hx) (ev_if ?_ (Ev.bind (ev_const hs) (Ev.now _)))
 rw [← he]
 simp [partsR, hM]
theorem spec_figure10 (x : Nat) (h : x < 10) : spec_l01Figure.f (x : Int) = some (48 + (x : Int)) := by
 unfold spec_l01Figure.f
 rw [if_pos (by omega), w64 (by omega) (by omega), show (48 + (x : Int)) % 256 = 48 + x by omega]
theorem spec_dec_l0 (below b : Bool) : ∀ (d m : Nat) (s : ByteArray), m < 10 ^ d → m ≤ 9223372036854775808 → s.size + d ≤ 1000 →
    Ev (fun k => spec_Decimal.l0 k (if b then -(m : Int) else m) below s) (sgn below (dgs m s)) := by
  have hz : ∀ s : ByteArray, s.size ≤ 1000 → Ev (fun k => spec_Decimal.l0 k (if b then -((0 : Nat) : Int) else ((0 : Nat) : Int)) below s) (sgn below (dgs 0 s)) := by
    intro s hs
    rw [dgs_zero, show (if b then -((0 : Nat) : Int) else ((0 : Nat) : Int)) = 0 by cases b <;> rfl]
    refine Ev.step (f := fun _ => some (sgn below s)) (fun k => ?_) (Ev.now _)
    simp only [spec_Decimal.l0, if_true]
    unfold sgn
    cases below
    · rfl
    · simp only [if_true]; rw [if_pos (by omega)]
  intro d
  induction d with
  | zero => intro m s h hm hs; obtain rfl : m = 0 := by omega
            exact hz s (by omega)
  | succ d ih =>
    intro m s h hm hs
    by_cases h0 : m = 0
    · subst h0; exact hz s (by omega)
    · rw [dgs_pos m s h0]
      have h' := ih (m / 10) (strOfNums [48 + ((m % 10 : Nat) : Int)] ++ s) (by rw [Nat.pow_succ] at h; omega) (by omega) (by rw [ByteArray.size_append, str_size]; simp; omega)
      refine Ev.step (fun k => ?_) h'
      simp only [spec_Decimal.l0]
      rw [tdiv10 b m, tmod10 b m, if_neg (by cases b <;> simp <;> omega)]
      have hw : wrap64 (if b then -((m / 10 : Nat) : Int) else ((m / 10 : Nat) : Int)) = if b then -((m / 10 : Nat) : Int) else ((m / 10 : Nat) : Int) := by
        apply w64 <;> (cases b <;> simp <;> omega)
      rw [hw]
      by_cases hd : b = true ∧ m % 10 ≠ 0
      · obtain ⟨rfl, hd⟩ := hd
        simp only [if_true]
        rw [if_pos (by omega), w64 (by omega) (by omega), Int.neg_neg, spec_figure10 _ (by omega)]
        simp only [Option.bind_some]
        rw [if_pos (by rw [str_size]; simp; omega)]
      · have e : (if b then -((m % 10 : Nat) : Int) else ((m % 10 : Nat) : Int)) = ((m % 10 : Nat) : Int) := by
          cases b
          · rfl
          · simp only [if_true]; have : m % 10 = 0 := by simp at hd; exact hd
            rw [this]; rfl
        rw [e, if_neg (by omega), spec_figure10 _ (by omega)]
        simp only [Option.bind_some]
        rw [if_pos (by rw [str_size]; simp; omega)]
theorem spec_dec (n : Int) (h0 : -9223372036854775808 ≤ n) (h1 : n < 9223372036854775808) : Ev (fun k => spec_Decimal.f k n) (decT n) := by
 unfold spec_Decimal.f
 by_cases h : n = 0
 ·subst h
  simp only [if_true]
  have e : decT 0 = ⟨#[48]⟩ := rfl
  rw [e]
  exact Ev.now _
 ·simp only [if_neg h]
  rw [decT_sgn n h]
  have h' := spec_dec_l0 (decide (n < 0)) (decide (n < 0)) 20 n.natAbs ⟨#[]⟩ (Nat.lt_of_le_of_lt (show n.natAbs ≤ 9223372036854775808 by omega) (by decide)) (by omega) (by simp [ByteArray.size])
  rw [← signed_of n] at h'
  exact h'
def zer (n : Nat) : ByteArray := ⟨(List.replicate n 48).toArray⟩
def minusT (b : Bool) : ByteArray := if b = true then ⟨#[45]⟩ else ⟨#[]⟩
def outT (b : Bool) (s : ByteArray) : ByteArray := if 1 < s.size then minusT b ++ s.extract 0 1 ++ (⟨#[46]⟩ : ByteArray) ++ s.extract 1 s.size else minusT b ++ s.extract 0 1
def showP (b : Bool) (s : ByteArray) (n : Int) : ByteArray :=
 if (s.size : Int) ≤ n ∧ n ≤ 21 then minusT b ++ s ++ zer (n - s.size).toNat
 else if 0 < n ∧ n ≤ 21 then minusT b ++ s.extract 0 n.toNat ++ (⟨#[46]⟩ : ByteArray) ++ s.extract n.toNat s.size
 else if -6 < n ∧ n ≤ 0 then minusT b ++ (⟨#[48, 46]⟩ : ByteArray) ++ zer (-n).toNat ++ s
 else if n - 1 < 0 then outT b s ++ (⟨#[101, 45]⟩ : ByteArray) ++ decT (1 - n)
 else outT b s ++ (⟨#[101, 43]⟩ : ByteArray) ++ decT (n - 1)
theorem zer_size (n : Nat) : (zer n).size = n := by unfold zer; simp [ByteArray.size]
theorem minus_size (b : Bool) : (minusT b).size ≤ 1 := by cases b <;> decide
theorem repeat48 (n : Nat) : (⟨(Lib.repeatL ([48] : List UInt8) n).toArray⟩ : ByteArray) = zer n := by
 have h : ∀ n, Lib.repeatL ([48] : List UInt8) n = List.replicate n 48 := by
  intro n
  induction n with
  | zero => rfl
  | succ n ih =>
   show 48 :: Lib.repeatL ([48] : List UInt8) n = _
   rw [ih, List.replicate_succ]
 unfold zer; rw [h]
theorem one46 : (⟨#[46]⟩ : ByteArray).size = 1 := rfl
theorem two_e1 : (⟨#[101, 45]⟩ : ByteArray).size = 2 := rfl
theorem two_e2 : (⟨#[101, 43]⟩ : ByteArray).size = 2 := rfl
theorem two_0 : (⟨#[48, 46]⟩ : ByteArray).size = 2 := rfl
theorem dec_size4 (n : Int) (h0 : 0 ≤ n) (h1 : n ≤ 2000) : (decT n).size ≤ 4 := by
 obtain ⟨m, rfl⟩ : ∃ m : Nat, n = m := ⟨n.toNat, by omega⟩
 exact (decN_size m 4 (by omega)).2 (by omega)
theorem show_spec_j0 (k : Nat) (x0 : Int) (x4 : ByteArray) (x338000 : Int) (x338001 : Bool) (x338002 : Int) (x338003 : Int) : spec_ShowNumber.j0 (k + 1) x0 x4 x338000 x338001 x338002 x338003 = if x338000 = 1 then (some (⟨#[78, 97, 78]⟩ : ByteArray)) else (if x338000 = 2 then (if x4.size + 8 ≤ 9223372036854775807 then (some (x4 ++ (⟨#[73, 110, 102, 105, 110, 105, 116, 121]⟩ : ByteArray))) else (none)) else (if x338000 = 3 then (some (⟨#[48]⟩ : ByteArray)) else ((spec_Shortest.f k x0).bind fun bt338 => (if (bt338.1.size : Int) ≤ (wrap64 (bt338.2 + (bt338.1.size : Int))) then (spec_ShowNumber.j1 k x4 bt338.1 (bt338.1.size : Int) (wrap64 (bt338.2 + (bt338.1.size : Int))) (decide ((wrap64 (bt338.2 + (bt338.1.size : Int))) ≤ 21))) else (spec_ShowNumber.j1 k x4 bt338.1 (bt338.1.size : Int) (wrap64 (bt338.2 + (bt338.1.size : Int))) false))))) := rfl
theorem show_spec_j3 (k : Nat) (x4 : ByteArray) (x5 : ByteArray) (x7 : Int) (x8 : Int) : spec_ShowNumber.j3 (k + 1) x4 x5 x7 x8 = if 0 ≤ 1 then (if 1 ≤ (x5.size : Int) then (if x4.size + (x5.extract 0 1).size ≤ 9223372036854775807 then (if x7 > 1 then (if (x4 ++ (x5.extract 0 1)).size + 1 ≤ 9223372036854775807 then (if ((x4 ++ (x5.extract 0 1)) ++ (⟨#[46]⟩ : ByteArray)).size + (x5.extract 1 x5.size).size ≤ 9223372036854775807 then (spec_ShowNumber.j4 k x8 (((x4 ++ (x5.extract 0 1)) ++ (⟨#[46]⟩ : ByteArray)) ++ (x5.extract 1 x5.size))) else (none)) else (none)) else (spec_ShowNumber.j4 k x8 (x4 ++ (x5.extract 0 1)))) else (none)) else (none)) else (none) := rfl
theorem show_spec_j4 (k : Nat) (x8 : Int) (x9 : ByteArray) : spec_ShowNumber.j4 (k + 1) x8 x9 = if (wrap64 (x8 - 1)) < 0 then (if x9.size + 2 ≤ 9223372036854775807 then ((spec_Decimal.f k (wrap64 (1 - x8))).bind fun t342 => (if (x9 ++ (⟨#[101, 45]⟩ : ByteArray)).size + t342.size ≤ 9223372036854775807 then (some ((x9 ++ (⟨#[101, 45]⟩ : ByteArray)) ++ t342)) else (none))) else (none)) else (if x9.size + 2 ≤ 9223372036854775807 then ((spec_Decimal.f k (wrap64 (x8 - 1))).bind fun t343 => (if (x9 ++ (⟨#[101, 43]⟩ : ByteArray)).size + t343.size ≤ 9223372036854775807 then (some ((x9 ++ (⟨#[101, 43]⟩ : ByteArray)) ++ t343)) else (none))) else (none)) := rfl
theorem show_spec_j1 (k : Nat) (x4 : ByteArray) (x5 : ByteArray) (x7 : Int) (x8 : Int) (x34 : Bool) : spec_ShowNumber.j1 (k + 1) x4 x5 x7 x8 x34 = if x34 = true then (if x4.size + x5.size ≤ 9223372036854775807 then ((spec_l01Long.f k (wrap64 (x8 - x7)) 48).bind fun t340 => (if (x4 ++ x5).size + t340.size ≤ 9223372036854775807 then (some ((x4 ++ x5) ++ t340)) else (none))) else (none)) else (if 0 < x8 then (spec_ShowNumber.j2 k x4 x5 x7 x8 (decide (x8 ≤ 21))) else (spec_ShowNumber.j2 k x4 x5 x7 x8 false)) := rfl
theorem show_spec_j2 (k : Nat) (x4 : ByteArray) (x5 : ByteArray) (x7 : Int) (x8 : Int) (x50 : Bool) : spec_ShowNumber.j2 (k + 1) x4 x5 x7 x8 x50 = if x50 = true then (if 0 ≤ x8 then (if x8 ≤ (x5.size : Int) then (if x4.size + (x5.extract 0 (x8 : Int).toNat).size ≤ 9223372036854775807 then (if (x4 ++ (x5.extract 0 (x8 : Int).toNat)).size + 1 ≤ 9223372036854775807 then (if ((x4 ++ (x5.extract 0 (x8 : Int).toNat)) ++ (⟨#[46]⟩ : ByteArray)).size + (x5.extract (x8 : Int).toNat x5.size).size ≤ 9223372036854775807 then (some (((x4 ++ (x5.extract 0 (x8 : Int).toNat)) ++ (⟨#[46]⟩ : ByteArray)) ++ (x5.extract (x8 : Int).toNat x5.size))) else (none)) else (none)) else (none)) else (none)) else (none)) else (if (-6) < x8 then (if x8 ≤ 0 then (if x4.size + 2 ≤ 9223372036854775807 then ((spec_l01Long.f k (wrap64 (-x8)) 48).bind fun t341 => (if (x4 ++ (⟨#[48, 46]⟩ : ByteArray)).size + t341.size ≤ 9223372036854775807 then (if ((x4 ++ (⟨#[48, 46]⟩ : ByteArray)) ++ t341).size + x5.size ≤ 9223372036854775807 then (some (((x4 ++ (⟨#[48, 46]⟩ : ByteArray)) ++ t341) ++ x5)) else (none)) else (none))) else (none)) else (spec_ShowNumber.j3 k x4 x5 x7 x8)) else (spec_ShowNumber.j3 k x4 x5 x7 x8)) := rfl
theorem spec_show_tail (X : ByteArray) (n : Int) (hX : X.size ≤ 1000) (h0 : -1000 ≤ n) (h1 : n ≤ 1000) : Ev (fun k => spec_ShowNumber.j4 k n X) (if n - 1 < 0 then X ++ (⟨#[101, 45]⟩ : ByteArray) ++ decT (1 - n) else X ++ (⟨#[101, 43]⟩ : ByteArray) ++ decT (n - 1)) := by
 refine Ev.step (fun k => show_spec_j4 k n X) ?_
 rw [w64 (x := n - 1) (by omega) (by omega), w64 (x := 1 - n) (by omega) (by omega)]
 by_cases c : n - 1 < 0
 ·have hd := dec_size4 (1 - n) (by omega) (by omega)
  rw [if_pos c]
  exact ev_if c (ev_if (by omega) (Ev.bind (spec_dec (1 - n) (by omega) (by omega)) (ev_if zS (Ev.now _))))
 ·have hd := dec_size4 (n - 1) (by omega) (by omega)
  rw [if_neg c]
  exact ev_else c (ev_if (by omega) (Ev.bind (spec_dec (n - 1) (by omega) (by omega)) (ev_if zS (Ev.now _))))
section
variable {b : Bool} {s : ByteArray} {n : Int}
theorem spec_show_out (hk1 : 1 ≤ s.size) (hk2 : s.size ≤ 17) (h0 : -1000 ≤ n) (h1 : n ≤ 1000) : Ev (fun k => spec_ShowNumber.j3 k (minusT b) s (s.size : Int) n) (if n - 1 < 0 then outT b s ++ (⟨#[101, 45]⟩ : ByteArray) ++ decT (1 - n) else outT b s ++ (⟨#[101, 43]⟩ : ByteArray) ++ decT (n - 1)) := by
 have hX := minus_size b
 refine Ev.step (fun k => show_spec_j3 k ..) (ev_if (by omega) (ev_if (by omega) (ev_if zS ?_)))
 unfold outT
 by_cases c : 1 < s.size
 ·rw [if_pos c]
  exact ev_if (by omega) (ev_if zS (ev_if zS (spec_show_tail _ n zS h0 h1)))
 ·rw [if_neg c]
  exact ev_else (by omega) (spec_show_tail _ n zS h0 h1)
theorem spec_show_two (hk1 : 1 ≤ s.size) (hk2 : s.size ≤ 17) (h0 : -1000 ≤ n) (h1 : n ≤ 1000) : Ev (fun k => spec_ShowNumber.j2 k (minusT b) s (s.size : Int) n false) (if -6 < n ∧ n ≤ 0 then minusT b ++ (⟨#[48, 46]⟩ : ByteArray) ++ zer (-n).toNat ++ s else if n - 1 < 0 then outT b s ++ (⟨#[101, 45]⟩ : ByteArray) ++ decT (1 - n) else outT b s ++ (⟨#[101, 43]⟩ : ByteArray) ++ decT (n - 1)) := by
 have hX := minus_size b
 refine Ev.step (fun k => show_spec_j2 k ..) (ev_else (by decide) ?_)
 by_cases c : -6 < n
 ·refine ev_if c ?_
  by_cases c2 : n ≤ 0
  ·obtain ⟨m, hm⟩ : ∃ m : Nat, -n = m := ⟨(-n).toNat, by omega⟩
   have h := spec_long48 m (by omega)
   rw [if_pos ⟨c, c2⟩, w64 (x := -n) (by omega) (by omega), hm, Int.toNat_natCast]
   exact ev_if c2 (ev_if (by omega) (Ev.bind h (ev_if (by show (minusT b ++ (⟨#[48, 46]⟩ : ByteArray)).size + (zer m).size ≤ _; exact zS) (ev_if (by show ((minusT b ++ (⟨#[48, 46]⟩ : ByteArray)) ++ zer m).size + s.size ≤ _; exact zS) (Ev.now _)))))
  ·rw [if_neg (fun h => c2 h.2)]
   exact ev_else c2 (spec_show_out hk1 hk2 h0 h1)
 ·rw [if_neg (fun h => c h.1)]
  exact ev_else c (spec_show_out hk1 hk2 h0 h1)
theorem spec_show_one (hk1 : 1 ≤ s.size) (hk2 : s.size ≤ 17) (h0 : -1000 ≤ n) (h1 : n ≤ 1000) (hc : ¬ ((s.size : Int) ≤ n ∧ n ≤ 21)) : Ev (fun k => spec_ShowNumber.j1 k (minusT b) s (s.size : Int) n false) (showP b s n) := by
 have hX := minus_size b
 unfold showP
 rw [if_neg hc]
 refine Ev.step (fun k => show_spec_j1 k ..) (ev_else (by decide) ?_)
 by_cases c : 0 < n
 ·refine ev_if c ?_
  by_cases c2 : n ≤ 21
  ·obtain ⟨m, rfl⟩ : ∃ m : Nat, n = m := ⟨n.toNat, by omega⟩
   rw [if_pos ⟨c, c2⟩, decide_eq_true c2, Int.toNat_natCast]
   refine Ev.step (fun k => show_spec_j2 k ..) (ev_if rfl ?_)
   rw [Int.toNat_natCast]
   exact ev_if (by omega) (ev_if (by omega) (ev_if zS (ev_if zS (ev_if zS (Ev.now _)))))
  ·rw [if_neg (fun h => c2 h.2), decide_eq_false c2]
   exact spec_show_two hk1 hk2 h0 h1
 ·rw [if_neg (fun h => c h.1)]
  exact ev_else c (spec_show_two hk1 hk2 h0 h1)
theorem spec_show_fin {f : Int} (hk1 : 1 ≤ s.size) (hk2 : s.size ≤ 17) (h0 : -400 ≤ f) (h1 : f ≤ 400) (x0 : Int) (b2 : Bool) (m e : Int) (hs : Ev (fun k => spec_Shortest.f k x0) (s, f)) : Ev (fun k => spec_ShowNumber.j0 k x0 (minusT b) 4 b2 m e) (showP b s (f + s.size)) := by
 have hX := minus_size b
 have w1 : wrap64 (f + (s.size : Int)) = f + s.size := w64 (by omega) (by omega)
 refine Ev.step (fun k => show_spec_j0 k ..) (ev_else (by omega) (ev_else (by omega) (ev_else (by omega) (Ev.bind hs ?_))))
 show Ev (fun k => if (s.size : Int) ≤ wrap64 (f + s.size) then spec_ShowNumber.j1 k (minusT b) s s.size (wrap64 (f + s.size)) (decide (wrap64 (f + s.size) ≤ 21)) else spec_ShowNumber.j1 k (minusT b) s s.size (wrap64 (f + s.size)) false) _
 rw [w1]
 obtain ⟨n, hn⟩ : ∃ n, n = f + (s.size : Int) := ⟨_, rfl⟩
 rw [← hn]
 by_cases c1 : (s.size : Int) ≤ n
 ·refine ev_if c1 ?_
  by_cases c2 : n ≤ 21
  ·obtain ⟨j, hj⟩ : ∃ j : Nat, n - s.size = j := ⟨(n - s.size).toNat, by omega⟩
   have h := spec_long48 j (by omega)
   rw [decide_eq_true c2]
   unfold showP
   rw [if_pos ⟨c1, c2⟩]
   refine Ev.step (fun k => show_spec_j1 k ..) (ev_if rfl (ev_if zS ?_))
   rw [w64 (x := n - s.size) (by omega) (by omega), hj, Int.toNat_natCast]
   exact Ev.bind h (ev_if (by show (minusT b ++ s).size + (zer j).size ≤ _; exact zS) (Ev.now _))
  ·rw [decide_eq_false c2]
   exact spec_show_one hk1 hk2 (by omega) (by omega) (fun h => c2 h.2)
 ·exact ev_else c1 (spec_show_one hk1 hk2 (by omega) (by omega) (fun h => c1 h.1))
end
open SF in
theorem spec_show {x M : Nat} {s : Bool} {e : Int} (hx : x < 18446744073709551616) (hr : Ieee.double.read x = .number s M e) (hM : M ≠ 0) : Ev (fun k => spec_ShowNumber.f k (x : Int)) (showP s (decN (bestU M e)) (bestF M e + (decN (bestU M e)).size)) := by
 have hb := best_of hx hr hM
 have h1 := (spec_shortest hx hr hM).1
 have hk := (decN_size (bestU M e) 17 (by omega)).2 hb.few
 have hl := hb.low
 have hh := hb.high
 have hf := fun b2 => spec_show_fin (b := s) (decN_pos (bestU M e)) hk (by omega) (by omega) (x : Int) b2 M e h1
 unfold spec_ShowNumber.f
 refine Ev.bind (parts_some hx hr hM) ?_
 cases s with
 | true => exact ev_if rfl (hf true)
 | false => exact ev_else (by show ¬ (false = true); decide) (hf false)
theorem impl_inB (a b c : Int) : impl_within.f a b c = some (decide (b ≤ a ∧ a ≤ c)) := by
 unfold impl_within.f
 by_cases h : a ≥ b
 ·rw [if_pos h]; simp; omega
 ·rw [if_neg h]; simp; omega
theorem impl_dec_l0B (n : Int) (b : Bool) : ∀ (d m : Nat) (s : ByteArray), m < 10 ^ (d + 1) → m ≤ 9223372036854775808 → s.size + d ≤ 1000 →
  Ev (fun k => impl_Decimal.l0 k n s (if b then -(m : Int) else m)) (sgn (decide (n < 0)) (dgz m s)) := by
 have hr : ∀ (m : Nat) (s : ByteArray) (k : Nat), m ≤ 9223372036854775808 → s.size ≤ 1000 → impl_Decimal.l0 (k + 1) n s (if b then -(m : Int) else m) =
   if m < 10 then some (sgn (decide (n < 0)) (dgz m s)) else impl_Decimal.l0 k n (strOfNums [48 + ((m % 10 : Nat) : Int)] ++ s) (if b then -((m / 10 : Nat) : Int) else ((m / 10 : Nat) : Int)) := by
  intro m s k hm hs
  simp only [impl_Decimal.l0]
  rw [tdiv10 b m, tmod10 b m]
  have hw : wrap64 (if b then -((m / 10 : Nat) : Int) else ((m / 10 : Nat) : Int)) = if b then -((m / 10 : Nat) : Int) else ((m / 10 : Nat) : Int) := by
   apply w64 <;> (cases b <;> simp <;> omega)
  rw [hw, impl_inB]
  have hin : decide ((-9 : Int) ≤ (if b then -(m : Int) else m) ∧ (if b then -(m : Int) else m) ≤ 9) = decide (m < 10) := by
   rw [decide_eq_decide]; cases b <;> simp <;> omega
  have htail : ∀ y : ByteArray, y.size ≤ 10 → y = strOfNums [48 + ((m % 10 : Nat) : Int)] → (if decide (m < 10) = true then (if n < 0 then (if 1 + (y ++ s).size ≤ 9223372036854775807 then some ((⟨#[45]⟩ : ByteArray) ++ (y ++ s)) else none) else some (y ++ s)) else impl_Decimal.l0 k n (y ++ s) (if b then -((m / 10 : Nat) : Int) else ((m / 10 : Nat) : Int))) = if m < 10 then some (sgn (decide (n < 0)) (dgz m s)) else impl_Decimal.l0 k n (strOfNums [48 + ((m % 10 : Nat) : Int)] ++ s) (if b then -((m / 10 : Nat) : Int) else ((m / 10 : Nat) : Int)) := by
   intro y hy hyy
   by_cases h1 : m < 10
   ·rw [if_pos (decide_eq_true h1), if_pos h1, dgz_small m s h1]
    rw [show m % 10 = m by omega] at hyy
    rw [← hyy]
    unfold sgn
    by_cases h2 : n < 0
    ·rw [if_pos h2, if_pos (by rw [ByteArray.size_append]; omega), if_pos (decide_eq_true h2)]
    ·rw [if_neg h2, if_neg (by simpa using h2)]
   ·rw [if_neg (by simpa using h1), if_neg h1, hyy]
  by_cases hd : b = true ∧ m % 10 ≠ 0
  ·obtain ⟨rfl, hd⟩ := hd
   simp only [if_true] at hin htail ⊢
   rw [if_pos (by omega), w64 (x := - -((m % 10 : Nat) : Int)) (by omega) (by omega), Int.neg_neg, w64 (by omega) (by omega), show (48 + ((m % 10 : Nat) : Int)) % 256 = 48 + ((m % 10 : Nat) : Int) by omega]
   simp only [Option.bind_some]
   rw [if_pos (by rw [str_size]; simp; omega), hin]
   exact htail _ (by rw [str_size]; simp) rfl
  ·have e : (if b then -((m % 10 : Nat) : Int) else ((m % 10 : Nat) : Int)) = ((m % 10 : Nat) : Int) := by
    cases b
    ·rfl
    ·simp only [if_true]; have : m % 10 = 0 := by simp at hd; exact hd
     rw [this]; rfl
   rw [e, if_neg (by omega), w64 (by omega) (by omega), show (48 + ((m % 10 : Nat) : Int)) % 256 = 48 + ((m % 10 : Nat) : Int) by omega]
   simp only [Option.bind_some]
   rw [if_pos (by rw [str_size]; simp; omega), hin]
   exact htail _ (by rw [str_size]; simp) rfl
 intro d
 induction d with
 | zero =>
  intro m s h hm hs
  exact Ev.step (f := fun _ => some (sgn (decide (n < 0)) (dgz m s))) (fun k => by rw [hr m s k hm (by omega), if_pos (by simpa using h)]) (Ev.now _)
 | succ d ih =>
  intro m s h hm hs
  by_cases h1 : m < 10
  ·exact Ev.step (f := fun _ => some (sgn (decide (n < 0)) (dgz m s))) (fun k => by rw [hr m s k hm (by omega), if_pos h1]) (Ev.now _)
  ·rw [dgz_far m s h1]
   exact Ev.step (fun k => by rw [hr m s k hm (by omega), if_neg h1]) (ih (m / 10) (strOfNums [48 + ((m % 10 : Nat) : Int)] ++ s) (by rw [Nat.pow_succ] at h; omega) (by omega) (by rw [ByteArray.size_append, str_size]; simp; omega))
theorem impl_decB (n : Int) (h0 : -9223372036854775808 ≤ n) (h1 : n < 9223372036854775808) : Ev (fun k => impl_Decimal.f k n) (decT n) := by
 unfold impl_Decimal.f
 have h' := impl_dec_l0B n (decide (n < 0)) 19 n.natAbs ⟨#[]⟩ (Nat.lt_of_le_of_lt (show n.natAbs ≤ 9223372036854775808 by omega) (by decide)) (by omega) (by simp [ByteArray.size])
 rw [← signed_of n] at h'
 have e : decT n = sgn (decide (n < 0)) (dgz n.natAbs ⟨#[]⟩) := by
  by_cases h : n = 0
  ·subst h; rfl
  ·rw [decT_sgn n h]; unfold dgz; rw [if_neg (by omega)]
 rw [e]
 exact h'
theorem rep_given (n : Nat) (h : n ≤ 100000) : strings_Repeat.f (⟨#[48]⟩ : ByteArray) (n : Int) = some (zer n) := by
 unfold strings_Repeat.f G.strings_Repeat
 rw [if_pos ⟨by omega, by omega, by show 1 ≤ 100000; omega⟩, Int.toNat_natCast]
 exact congrArg some (repeat48 n)
theorem show_impl_j0 (k : Nat) (x0 : Int) (x4 : ByteArray) (x365000 : Int) (x365001 : Bool) (x365002 : Int) (x365003 : Int) : impl_ShowNumber.j0 (k + 1) x0 x4 x365000 x365001 x365002 x365003 = if x365000 = 1 then (some (⟨#[78, 97, 78]⟩ : ByteArray)) else (if x365000 = 2 then (if x4.size + 8 ≤ 9223372036854775807 then (some (x4 ++ (⟨#[73, 110, 102, 105, 110, 105, 116, 121]⟩ : ByteArray))) else (none)) else (if x365000 = 3 then (some (⟨#[48]⟩ : ByteArray)) else ((impl_Shortest.f k x0).bind fun bt365 => ((impl_within.f (wrap64 ((bt365.1.size : Int) + bt365.2)) (bt365.1.size : Int) 21).bind fun t367 => (if t367 = true then (if x4.size + bt365.1.size ≤ 9223372036854775807 then ((strings_Repeat.f (⟨#[48]⟩ : ByteArray) (wrap64 ((wrap64 ((bt365.1.size : Int) + bt365.2)) - (bt365.1.size : Int)))).bind fun t368 => (if (x4 ++ bt365.1).size + t368.size ≤ 9223372036854775807 then (some ((x4 ++ bt365.1) ++ t368)) else (none))) else (none)) else ((impl_within.f (wrap64 ((bt365.1.size : Int) + bt365.2)) 1 21).bind fun t369 => (if t369 = true then (if 0 ≤ (wrap64 ((bt365.1.size : Int) + bt365.2)) then (if (wrap64 ((bt365.1.size : Int) + bt365.2)) ≤ (bt365.1.size : Int) then (if x4.size + (bt365.1.extract 0 ((wrap64 ((bt365.1.size : Int) + bt365.2)) : Int).toNat).size ≤ 9223372036854775807 then (if (x4 ++ (bt365.1.extract 0 ((wrap64 ((bt365.1.size : Int) + bt365.2)) : Int).toNat)).size + 1 ≤ 9223372036854775807 then (if ((x4 ++ (bt365.1.extract 0 ((wrap64 ((bt365.1.size : Int) + bt365.2)) : Int).toNat)) ++ (⟨#[46]⟩ : ByteArray)).size + (bt365.1.extract ((wrap64 ((bt365.1.size : Int) + bt365.2)) : Int).toNat bt365.1.size).size ≤ 9223372036854775807 then (some (((x4 ++ (bt365.1.extract 0 ((wrap64 ((bt365.1.size : Int) + bt365.2)) : Int).toNat)) ++ (⟨#[46]⟩ : ByteArray)) ++ (bt365.1.extract ((wrap64 ((bt365.1.size : Int) + bt365.2)) : Int).toNat bt365.1.size))) else (none)) else (none)) else (none)) else (none)) else (none)) else ((impl_within.f (wrap64 ((bt365.1.size : Int) + bt365.2)) (-5) 0).bind fun t370 => (if t370 = true then (if x4.size + 2 ≤ 9223372036854775807 then ((strings_Repeat.f (⟨#[48]⟩ : ByteArray) (wrap64 (-(wrap64 ((bt365.1.size : Int) + bt365.2))))).bind fun t371 => (if (x4 ++ (⟨#[48, 46]⟩ : ByteArray)).size + t371.size ≤ 9223372036854775807 then (if ((x4 ++ (⟨#[48, 46]⟩ : ByteArray)) ++ t371).size + bt365.1.size ≤ 9223372036854775807 then (some (((x4 ++ (⟨#[48, 46]⟩ : ByteArray)) ++ t371) ++ bt365.1)) else (none)) else (none))) else (none)) else (if 0 ≤ 1 then (if 1 ≤ (bt365.1.size : Int) then (if x4.size + (bt365.1.extract 0 1).size ≤ 9223372036854775807 then (if (bt365.1.size : Int) > 1 then (if (x4 ++ (bt365.1.extract 0 1)).size + 1 ≤ 9223372036854775807 then (if ((x4 ++ (bt365.1.extract 0 1)) ++ (⟨#[46]⟩ : ByteArray)).size + (bt365.1.extract 1 bt365.1.size).size ≤ 9223372036854775807 then (impl_ShowNumber.j1 k (wrap64 ((bt365.1.size : Int) + bt365.2)) (((x4 ++ (bt365.1.extract 0 1)) ++ (⟨#[46]⟩ : ByteArray)) ++ (bt365.1.extract 1 bt365.1.size))) else (none)) else (none)) else (impl_ShowNumber.j1 k (wrap64 ((bt365.1.size : Int) + bt365.2)) (x4 ++ (bt365.1.extract 0 1)))) else (none)) else (none)) else (none))))))))))) := rfl
theorem show_impl_j1 (k : Nat) (x8 : Int) (x9 : ByteArray) : impl_ShowNumber.j1 (k + 1) x8 x9 = if (wrap64 (x8 - 1)) < 0 then (if x9.size + 2 ≤ 9223372036854775807 then ((impl_Decimal.f k (wrap64 (1 - x8))).bind fun t372 => (if (x9 ++ (⟨#[101, 45]⟩ : ByteArray)).size + t372.size ≤ 9223372036854775807 then (some ((x9 ++ (⟨#[101, 45]⟩ : ByteArray)) ++ t372)) else (none))) else (none)) else (if x9.size + 2 ≤ 9223372036854775807 then ((impl_Decimal.f k (wrap64 (x8 - 1))).bind fun t373 => (if (x9 ++ (⟨#[101, 43]⟩ : ByteArray)).size + t373.size ≤ 9223372036854775807 then (some ((x9 ++ (⟨#[101, 43]⟩ : ByteArray)) ++ t373)) else (none))) else (none)) := rfl
theorem impl_show_tail (X : ByteArray) (n : Int) (hX : X.size ≤ 1000) (h0 : -1000 ≤ n) (h1 : n ≤ 1000) : Ev (fun k => impl_ShowNumber.j1 k n X) (if n - 1 < 0 then X ++ (⟨#[101, 45]⟩ : ByteArray) ++ decT (1 - n) else X ++ (⟨#[101, 43]⟩ : ByteArray) ++ decT (n - 1)) := by
 refine Ev.step (fun k => show_impl_j1 k n X) ?_
 rw [w64 (x := n - 1) (by omega) (by omega), w64 (x := 1 - n) (by omega) (by omega)]
 by_cases c : n - 1 < 0
 ·have hd := dec_size4 (1 - n) (by omega) (by omega)
  rw [if_pos c]
  exact ev_if c (ev_if (by omega) (Ev.bind (impl_decB (1 - n) (by omega) (by omega)) (ev_if zS (Ev.now _))))
 ·have hd := dec_size4 (n - 1) (by omega) (by omega)
  rw [if_neg c]
  exact ev_else c (ev_if (by omega) (Ev.bind (impl_decB (n - 1) (by omega) (by omega)) (ev_if zS (Ev.now _))))
theorem impl_show_fin {b : Bool} {s : ByteArray} {f : Int} (hk1 : 1 ≤ s.size) (hk2 : s.size ≤ 17) (h0 : -400 ≤ f) (h1 : f ≤ 400) (x0 : Int) (b2 : Bool) (m e : Int) (hs : Ev (fun k => impl_Shortest.f k x0) (s, f)) : Ev (fun k => impl_ShowNumber.j0 k x0 (minusT b) 4 b2 m e) (showP b s (f + s.size)) := by
 have hX := minus_size b
 have w1 : wrap64 ((s.size : Int) + f) = f + s.size := by rw [w64 (by omega) (by omega)]; omega
 obtain ⟨n, hn⟩ : ∃ n, n = f + (s.size : Int) := ⟨_, rfl⟩
 refine Ev.step (fun k => show_impl_j0 k ..) (ev_else (by omega) (ev_else (by omega) (ev_else (by omega) (Ev.bind hs ?_))))
 simp only [w1]
 rw [← hn]
 refine Ev.bind (ev_const (impl_inB _ _ _)) ?_
 unfold showP
 by_cases c1 : (s.size : Int) ≤ n ∧ n ≤ 21
 ·obtain ⟨j, hj⟩ : ∃ j : Nat, n - s.size = j := ⟨(n - s.size).toNat, by omega⟩
  rw [if_pos c1, hj, Int.toNat_natCast, w64 (x := ((j : Nat) : Int)) (by omega) (by omega)]
  exact ev_if (decide_eq_true c1) (ev_if zS (Ev.bind (ev_const (rep_given j (by omega))) (ev_if zS (Ev.now _))))
 ·rw [if_neg c1]
  refine ev_else (by simpa using c1) (Ev.bind (ev_const (impl_inB _ _ _)) ?_)
  by_cases c2 : 0 < n ∧ n ≤ 21
  ·obtain ⟨j, rfl⟩ : ∃ j : Nat, n = j := ⟨n.toNat, by omega⟩
   rw [if_pos c2, Int.toNat_natCast]
   exact ev_if (decide_eq_true (by omega)) (ev_if (by omega) (ev_if (by show (j : Int) ≤ (s.size : Int); omega) (ev_if zS (ev_if zS (ev_if zS (Ev.now _))))))
  ·rw [if_neg c2]
   refine ev_else (by rw [decide_eq_true_iff]; omega) (Ev.bind (ev_const (impl_inB _ _ _)) ?_)
   by_cases c3 : -6 < n ∧ n ≤ 0
   ·obtain ⟨j, hj⟩ : ∃ j : Nat, -n = j := ⟨(-n).toNat, by omega⟩
    rw [if_pos c3, hj, Int.toNat_natCast, w64 (x := ((j : Nat) : Int)) (by omega) (by omega)]
    exact ev_if (decide_eq_true (by omega)) (ev_if zS (Ev.bind (ev_const (rep_given j (by omega))) (ev_if zS (ev_if zS (Ev.now _)))))
   ·rw [if_neg c3]
    refine ev_else (by rw [decide_eq_true_iff]; omega) (ev_if (by omega) (ev_if (by show (1 : Int) ≤ (s.size : Int); omega) (ev_if zS ?_)))
    unfold outT
    by_cases c : 1 < s.size
    ·rw [if_pos c]
     exact ev_if (by show (s.size : Int) > 1; omega) (ev_if zS (ev_if zS (impl_show_tail _ n zS (by omega) (by omega))))
    ·rw [if_neg c]
     exact ev_else (by show ¬ (s.size : Int) > 1; omega) (impl_show_tail _ n zS (by omega) (by omega))
open SF in
theorem impl_show {x M : Nat} {s : Bool} {e : Int} (hx : x < 18446744073709551616) (hr : Ieee.double.read x = .number s M e) (hM : M ≠ 0) : Ev (fun k => impl_ShowNumber.f k (x : Int)) (showP s (decN (bestU M e)) (bestF M e + (decN (bestU M e)).size)) := by
 have hb := best_of hx hr hM
 have h1 := impl_short hx hr hM
 have hk := (decN_size (bestU M e) 17 (by omega)).2 hb.few
 have hl := hb.low
 have hh := hb.high
 have hf := fun b2 => impl_show_fin (b := s) (decN_pos (bestU M e)) hk (by omega) (by omega) (x : Int) b2 M e h1
 have hp := impl_parts x hx
 have he := ev_same (parts_is hx hr) (spec_parts x hx)
 rw [← he] at hp
 unfold partsR at hp
 simp only [if_neg hM] at hp
 unfold impl_ShowNumber.f
 refine Ev.bind hp ?_
 cases s with
 | true => exact ev_if rfl (hf true)
 | false => exact ev_else (by show ¬ (false = true); decide) (hf false)
def showK : Int → Bool → ByteArray
 | 1, _ => ⟨#[78, 97, 78]⟩
 | 2, b => minusT b ++ ⟨#[73, 110, 102, 105, 110, 105, 116, 121]⟩
 | _, _ => ⟨#[48]⟩
theorem spec_show_k {x : Nat} {p : Int × Bool × Int × Int} (hp : Ev (fun k => spec_PartsOfNumber.f k (x : Int)) p) (h : p.1 = 1 ∨ p.1 = 2 ∨ p.1 = 3) : Ev (fun k => spec_ShowNumber.f k (x : Int)) (showK p.1 p.2.1) := by
 obtain ⟨c, b, m, e⟩ := p
 have key : Ev (fun k => spec_ShowNumber.j0 k (x : Int) (minusT b) c b m e) (showK c b) := by
  refine Ev.step (fun k => show_spec_j0 k ..) ?_
  rcases h with h | h | h
  ·obtain rfl : c = 1 := h
   exact ev_if rfl (Ev.now _)
  ·obtain rfl : c = 2 := h
   exact ev_else (by decide) (ev_if rfl (ev_if (by have := minus_size b; omega) (Ev.now _)))
  ·obtain rfl : c = 3 := h
   exact ev_else (by decide) (ev_else (by decide) (ev_if rfl (Ev.now _)))
 unfold spec_ShowNumber.f
 refine Ev.bind hp ?_
 cases b with
 | true => exact ev_if rfl key
 | false => exact ev_else (by show ¬ (false = true); decide) key
theorem impl_show_k {x : Nat} {p : Int × Bool × Int × Int} (hp : Ev (fun k => impl_PartsOfNumber.f k (x : Int)) p) (h : p.1 = 1 ∨ p.1 = 2 ∨ p.1 = 3) : Ev (fun k => impl_ShowNumber.f k (x : Int)) (showK p.1 p.2.1) := by
 obtain ⟨c, b, m, e⟩ := p
 have key : Ev (fun k => impl_ShowNumber.j0 k (x : Int) (minusT b) c b m e) (showK c b) := by
  refine Ev.step (fun k => show_impl_j0 k ..) ?_
  rcases h with h | h | h
  ·obtain rfl : c = 1 := h
   exact ev_if rfl (Ev.now _)
  ·obtain rfl : c = 2 := h
   exact ev_else (by decide) (ev_if rfl (ev_if (by have := minus_size b; omega) (Ev.now _)))
  ·obtain rfl : c = 3 := h
   exact ev_else (by decide) (ev_else (by decide) (ev_if rfl (Ev.now _)))
 unfold impl_ShowNumber.f
 refine Ev.bind hp ?_
 cases b with
 | true => exact ev_if rfl key
 | false => exact ev_else (by show ¬ (false = true); decide) key
theorem FnExactShowNumber : laws_FnExactShowNumber.Pure := by
 intro a0 hw
 obtain ⟨h0, h1⟩ := wfu64 hw
 obtain ⟨x, rfl⟩ : ∃ n : Nat, a0 = n := ⟨a0.toNat, by omega⟩
 have hx : x < 18446744073709551616 := by omega
 refine Ev.rounds ?_
 have key : ∀ (t : ByteArray), Ev (fun k => spec_ShowNumber.f k (x : Int)) t → Ev (fun k => impl_ShowNumber.f k (x : Int)) t → Ev (fun k => laws_FnExactShowNumber.f k (x : Int)) true := by
  intro t h1 h2
  unfold laws_FnExactShowNumber.f
  exact Ev.bind h1 (Ev.bind h2 (ev_if rfl (Ev.now _)))
 have hbad : ∀ {d : Ieee.Datum}, Ieee.double.read x = d → ((partsR d).1 = 1 ∨ (partsR d).1 = 2 ∨ (partsR d).1 = 3) → Ev (fun k => laws_FnExactShowNumber.f k (x : Int)) true := fun hr h => by
  have hp := impl_parts x hx
  rw [← ev_same (parts_is hx hr) (spec_parts x hx)] at hp
  exact key _ (spec_show_k (parts_is hx hr) h) (impl_show_k hp h)
 cases hr : Ieee.double.read x with
 | nan s f => exact hbad hr (.inl rfl)
 | infinity s => exact hbad hr (.inr (.inl rfl))
 | number s M e =>
  by_cases hM : M = 0
  ·subst hM
   exact hbad hr (.inr (.inr (by simp [partsR])))
  ·exact key _ (spec_show hx hr hM) (impl_show hx hr hM)
end Go.Proofs.YtkjpelgdppmbjaaGreatDoor.Pure
