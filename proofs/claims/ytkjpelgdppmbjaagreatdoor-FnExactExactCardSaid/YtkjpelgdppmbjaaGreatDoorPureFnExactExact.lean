/- At every number the program's Exact and the reference's tell the same figures and the same power of ten. No condition but the statement's own. -/
import Derived.Test.YtkjpelgdppmbjaaGreatDoorMFnExactExactx3
import Derived.Test.YtkjpelgdppmbjaaGreatDoorK9
namespace Go.Proofs.YtkjpelgdppmbjaaGreatDoor.Pure
open Go.RowKit Go.Proofs.YtkjpelgdppmbjaaGreatDoor.MFnExactExact Go.Proofs.YtkjpelgdppmbjaaGreatDoorW.PrintWords Go.Proofs.YtkjpelgdppmbjaaGreatDoorW.PrintLast Go.Proofs.YtkjpelgdppmbjaaGreatDoor.CB
theorem spec_pow_l0 (n : Nat) (hn : n ≤ 63) : ∀ (d i : Nat), n - i = d → i ≤ n → Ev (fun k => spec_l03Pow.l0 k (n : Int) ((2 ^ i : Nat) : Int) (i : Int)) ((2 ^ n : Nat) : Int) := by
  intro d
  induction d with
  | zero =>
    intro i hd hi
    obtain rfl : i = n := by omega
    exact Ev.step (f := fun _ => some ((2 ^ i : Nat) : Int)) (fun k => by simp only [spec_l03Pow.l0]; rw [if_neg (by omega)]) (Ev.now _)
  | succ d ih =>
    intro i hd hi
    refine Ev.step (fun k => ?_) (ih (i + 1) (by omega) (by omega))
    simp only [spec_l03Pow.l0]
    have hp : 2 ^ (i + 1) ≤ 2 ^ 63 := Nat.pow_le_pow_right (by omega) (by omega)
    rw [if_pos (by omega), wu64, w64 (by omega) (by omega)]
    rw [Nat.pow_succ] at hp
    rw [show ((2 ^ i : Nat) : Int) * 2 % 18446744073709551616 = ((2 ^ (i + 1) : Nat) : Int) by rw [Nat.pow_succ]; omega]
    rfl
theorem spec_pow (n : Nat) (hn : n ≤ 63) : Ev (fun k => spec_l03Pow.f k (n : Int)) ((2 ^ n : Nat) : Int) := by
  unfold spec_l03Pow.f; exact spec_pow_l0 n hn n 0 (by omega) (by omega)
theorem spec_pow63 : Ev (fun k => spec_l03Pow.f k 63) 9223372036854775808 := spec_pow 63 (by omega)
/-- The parts of a number: kind, below, mantissa, exponent. -/
def partsN (x : Nat) : Int × Bool × Int × Int :=
  if 9218868437227405312 < x % 9223372036854775808 then (1, false, 0, 0)
  else if x % 9223372036854775808 = 9218868437227405312 then (2, decide (9223372036854775808 ≤ x), 0, 0)
  else if x % 9223372036854775808 = 0 then (3, decide (9223372036854775808 ≤ x), 0, 0)
  else if x % 9223372036854775808 < 4503599627370496 then (4, decide (9223372036854775808 ≤ x), ((x % 4503599627370496 : Nat) : Int), -1074)
  else (4, decide (9223372036854775808 ≤ x), ((x % 4503599627370496 + 4503599627370496 : Nat) : Int), ((x / 4503599627370496 % 2048 : Nat) : Int) - 1075)
def nanB (x : Nat) : Bool := decide (9218868437227405312 < x % 9223372036854775808)
theorem spec_parts_j1 (k : Nat) (e f : Int) (b z : Bool) : spec_PartsOfNumber.j1 (k + 1) e f z 0 b 0 0 = if z = true then some (3, b, 0, 0) else if e = 0 then some (4, b, f, (-1074)) else some (4, b, IntKind.u64.wrap (f + 4503599627370496), wrap64 (e - 1075)) := rfl
theorem spec_parts_j0 (k : Nat) (e f : Int) (b z : Bool) : spec_PartsOfNumber.j0 (k + 1) e f z 0 b 0 0 = if z = true then some (1, false, 0, 0) else if e = 2047 then some (2, b, 0, 0) else if e = 0 then spec_PartsOfNumber.j1 k e f (f == 0) 0 b 0 0 else spec_PartsOfNumber.j1 k e f false 0 b 0 0 := rfl
theorem spec_parts (x : Nat) (hx : x < 18446744073709551616) : Ev (fun k => spec_PartsOfNumber.f k (x : Int)) (partsN x) := by
  unfold spec_PartsOfNumber.f
  refine Ev.bind spec_pow63 ?_
  simp only [if_neg (show ¬ (9223372036854775808 : Int) = 0 by omega)]
  have e1 : wrap64 (Int.tmod (IntKind.u64.wrap (Int.tdiv (x : Int) 4503599627370496)) 2048) = ((x / 4503599627370496 % 2048 : Nat) : Int) := by
    rw [wu64, tdivN (Int.natCast_nonneg x), tmodN (by omega), w64 (by omega) (by omega)]; omega
  have e2 : Int.tmod (x : Int) 4503599627370496 = ((x % 4503599627370496 : Nat) : Int) := by rw [tmodN (Int.natCast_nonneg x)]; omega
  have e3 : ((IntKind.u64.wrap (Int.tdiv (x : Int) 9223372036854775808)) == 1) = decide (9223372036854775808 ≤ x) := by
    rw [wu64, tdivN (Int.natCast_nonneg x), Bool.eq_iff_iff]; simp; omega
  rw [e1, e2, e3]
  generalize hb : decide (9223372036854775808 ≤ x) = b
  have hp : partsN x = if 9218868437227405312 < x % 9223372036854775808 then (1, false, 0, 0)
    else if x % 9223372036854775808 = 9218868437227405312 then (2, b, 0, 0)
    else if x % 9223372036854775808 = 0 then (3, b, 0, 0)
    else if x % 9223372036854775808 < 4503599627370496 then (4, b, ((x % 4503599627370496 : Nat) : Int), -1074)
    else (4, b, ((x % 4503599627370496 + 4503599627370496 : Nat) : Int), ((x / 4503599627370496 % 2048 : Nat) : Int) - 1075) := by unfold partsN; rw [hb]
  rw [hp]
  by_cases h1 : x / 4503599627370496 % 2048 = 2047
  · simp only [if_pos (show ((x / 4503599627370496 % 2048 : Nat) : Int) = 2047 by omega)]
    by_cases h2 : x % 4503599627370496 = 0
    · rw [if_neg (by omega), if_pos (by omega)]
      exact Ev.step (f := fun _ => some (2, b, 0, 0)) (fun k => by rw [spec_parts_j0, if_neg (by simp [h2]), if_pos (by omega)]) (Ev.now _)
    · rw [if_pos (by omega)]
      exact Ev.step (f := fun _ => some (1, false, 0, 0)) (fun k => by rw [spec_parts_j0, if_pos (by simp; omega)]) (Ev.now _)
  · simp only [if_neg (show ¬ ((x / 4503599627370496 % 2048 : Nat) : Int) = 2047 by omega)]
    rw [if_neg (by omega), if_neg (by omega)]
    by_cases h2 : x / 4503599627370496 % 2048 = 0
    · refine Ev.step (f := fun k => spec_PartsOfNumber.j1 k ((x / 4503599627370496 % 2048 : Nat) : Int) ((x % 4503599627370496 : Nat) : Int) (((x % 4503599627370496 : Nat) : Int) == 0) 0 b 0 0) (fun k => by rw [spec_parts_j0, if_neg (by simp), if_neg (by omega), if_pos (by omega)]) ?_
      by_cases h3 : x % 4503599627370496 = 0
      · rw [if_pos (by omega)]
        exact Ev.step (f := fun _ => some (3, b, 0, 0)) (fun k => by rw [spec_parts_j1, if_pos (by simp [h3])]) (Ev.now _)
      · rw [if_neg (by omega), if_pos (by omega)]
        exact Ev.step (f := fun _ => some (4, b, ((x % 4503599627370496 : Nat) : Int), -1074)) (fun k => by rw [spec_parts_j1, if_neg (by simp; omega), if_pos (by omega)]) (Ev.now _)
    · refine Ev.step (f := fun k => spec_PartsOfNumber.j1 k ((x / 4503599627370496 % 2048 : Nat) : Int) ((x % 4503599627370496 : Nat) : Int) false 0 b 0 0) (fun k => by rw [spec_parts_j0, if_neg (by simp), if_neg (by omega), if_neg (by omega)]) ?_
      rw [if_neg (by omega), if_neg (by omega)]
      refine Ev.step (f := fun _ => some (4, b, ((x % 4503599627370496 + 4503599627370496 : Nat) : Int), ((x / 4503599627370496 % 2048 : Nat) : Int) - 1075)) (fun k => ?_) (Ev.now _)
      rw [spec_parts_j1, if_neg (by simp), if_neg (by omega), wu64, w64 (by omega) (by omega), show (((x % 4503599627370496 : Nat) : Int) + 4503599627370496) % 18446744073709551616 = ((x % 4503599627370496 + 4503599627370496 : Nat) : Int) by omega]
/-- A number's parts by what it stands for. -/
def partsR (d : Ieee.Datum) : Int × Bool × Int × Int := match d with | .nan _ _ => (1, false, 0, 0) | .infinity b => (2, b, 0, 0) | .number b m e => if m = 0 then (3, b, 0, 0) else (4, b, (m : Int), e)
open Go.Proofs.YtkjpelgdppmbjaaGreatDoor.CG in
theorem parts_read (x : Nat) (hx : x < 18446744073709551616) : partsN x = partsR (Ieee.double.read x) := by
  rw [read_def x hx]
  unfold partsN Go.Proofs.YtkjpelgdppmbjaaGreatDoor.CG.sgn
  by_cases h1 : 9218868437227405312 < x % 9223372036854775808
  · rw [if_pos h1, if_neg (by omega), if_neg (by omega), if_neg (by omega)]; rfl
  · rw [if_neg h1]
    by_cases h2 : x % 9223372036854775808 = 9218868437227405312
    · rw [if_pos h2, if_neg (by omega), if_neg (by omega), if_pos h2]; rfl
    · rw [if_neg h2]
      by_cases h3 : x % 9223372036854775808 = 0
      · rw [if_pos h3, if_pos (by omega), h3]; rfl
      · rw [if_neg h3]
        by_cases h4 : x % 9223372036854775808 < 4503599627370496
        · rw [if_pos h4, if_pos h4]
          unfold partsR
          simp only [if_neg h3]
          rw [show x % 9223372036854775808 = x % 4503599627370496 by omega]
        · rw [if_neg h4, if_neg h4, if_pos (by omega)]
          unfold partsR
          simp only [if_neg (show ¬ 4503599627370496 + x % 4503599627370496 = 0 by omega)]
          rw [Nat.add_comm 4503599627370496]
theorem parts_is {x : Nat} {d : Ieee.Datum} (hx : x < 18446744073709551616) (h : Ieee.double.read x = d) : Ev (fun k => spec_PartsOfNumber.f k (x : Int)) (partsR d) := by
  have := spec_parts x hx
  rw [parts_read x hx, h] at this
  exact this
theorem parts_some {x m : Nat} {s : Bool} {i : Int} (hx : x < 18446744073709551616) (h : Ieee.double.read x = .number s m i) (hm : m ≠ 0) : Ev (fun k => spec_PartsOfNumber.f k (x : Int)) (4, s, (m : Int), i) := by
  have := parts_is hx h
  unfold partsR at this
  simp only [if_neg hm] at this
  exact this
/-- The value of numbers, the lowest first, to a base. -/
def valI (B : Int) : List Int → Int
  | [] => 0
  | x :: l => x + B * valI B l
theorem valI_append (B : Int) (l m : List Int) : valI B (l ++ m) = valI B l + B ^ l.length * valI B m := by
  induction l with
  | nil => simp [valI]
  | cons x l ih =>
    simp only [List.cons_append, valI, ih, List.length_cons, Int.pow_succ]
    grind
theorem valI_set (B : Int) (v : Int) : ∀ (l : List Int) (i : Nat), i < l.length → valI B (l.set i v) = valI B l + B ^ i * (v - l.getD i 0) := by
  intro l
  induction l with
  | nil => intro i h; simp at h
  | cons x l ih =>
    intro i h
    cases i with
    | zero => simp [valI]; omega
    | succ i =>
      have := ih i (by simpa using h)
      simp only [List.set_cons_succ, valI, this, List.getD_cons_succ, Int.pow_succ]
      grind
theorem valI_take_succ (B : Int) (l : List Int) (i : Nat) (h : i < l.length) : valI B (l.take (i + 1)) = valI B (l.take i) + B ^ i * l.getD i 0 := by
  rw [List.take_succ_eq_append_getElem h, valI_append]
  have : (l.take i).length = i := by simp; omega
  rw [this]
  simp [valI, List.getD_eq_getElem?_getD, List.getElem?_eq_getElem h]
theorem valI_zeros (B : Int) (n : Nat) : valI B (List.replicate n 0) = 0 := by
  induction n with
  | zero => rfl
  | succ n ih => rw [List.replicate_succ]; simp [valI, ih]
theorem rd_nat (l : List Int) (i : Nat) : rd l (i : Int) = l.getD i 0 := by unfold rd; rw [Int.toNat_natCast]
theorem getD_mem (l : List Int) (i : Nat) (h : i < l.length) : l.getD i 0 ∈ l := by
  rw [List.getD_eq_getElem?_getD, List.getElem?_eq_getElem h]; simp
theorem getD_set_eq (l : List Int) (i : Nat) (v : Int) (h : i < l.length) : (l.set i v).getD i 0 = v := by
  simp [List.getD_eq_getElem?_getD, h]
theorem getD_set_ne (l : List Int) (i j : Nat) (v : Int) (h : i ≠ j) : (l.set i v).getD j 0 = l.getD j 0 := by
  simp [List.getD_eq_getElem?_getD, List.getElem?_set_ne h]
theorem set_last (m : Nat) (z d : Int) (T : List Int) : (List.replicate (m + 1) z ++ T).set m d = List.replicate m z ++ d :: T := by
  rw [List.replicate_succ', List.append_assoc, List.set_append_right _ _ (by simp)]
  simp
theorem getD_out (l : List Int) (i : Nat) (h : l.length ≤ i) : l.getD i 0 = 0 := by rw [List.getD_eq_getElem?_getD, List.getElem?_eq_none h]; rfl
theorem getD_zeros (n j : Nat) : (List.replicate n (0 : Int)).getD j 0 = 0 := by
  by_cases h : j < n
  · rw [List.getD_eq_getElem?_getD, List.getElem?_replicate]; simp [h]
  · rw [getD_out _ _ (by simp; omega)]
/-- The value of figures as bytes, the highest first. -/
def vM : List Int → Int
  | [] => 0
  | c :: T => (c - 48) * 10 ^ T.length + vM T
def dgI (T : List Int) : Prop := ∀ c ∈ T, 48 ≤ c ∧ c ≤ 57
theorem valD_foldl (l : List UInt8) : ∀ n : Nat, List.foldl (fun n (b : UInt8) => 10 * n + (b.toNat - 48)) n l = n * 10 ^ l.length + valD l := by
  induction l with
  | nil => intro n; simp [valD]
  | cons b l ih =>
    intro n
    unfold valD
    rw [List.foldl_cons, List.foldl_cons, ih, ih, List.length_cons, Nat.pow_succ, Nat.mul_zero, Nat.zero_add]
    rw [Nat.add_mul, Nat.mul_comm 10 n, Nat.mul_assoc n 10, Nat.mul_comm 10 (10 ^ l.length)]
    omega
theorem valD_cons (b : UInt8) (l : List UInt8) : valD (b :: l) = (b.toNat - 48) * 10 ^ l.length + valD l := by
  have := valD_foldl l (10 * 0 + (b.toNat - 48))
  unfold valD
  rw [List.foldl_cons, this, Nat.mul_zero, Nat.zero_add]; rfl
theorem byteOf_toNat (c : Int) (h : 0 ≤ c ∧ c < 256) : ((byteOf c).toNat : Int) = c := by
  unfold byteOf
  have : (UInt8.ofNat c.toNat).toNat = c.toNat := by simp; omega
  rw [this]; omega
theorem vM_valD (T : List Int) (h : dgI T) : ((valD (T.map byteOf) : Nat) : Int) = vM T := by
  induction T with
  | nil => rfl
  | cons c T ih =>
    have hc := h c (by simp)
    have hb := byteOf_toNat c (by omega)
    have := ih (fun d hd => h d (by simp [hd]))
    rw [List.map_cons, valD_cons, List.length_map]
    unfold vM
    rw [← this, Int.natCast_add, Int.natCast_mul, Int.natCast_pow]
    rw [show (((byteOf c).toNat - 48 : Nat) : Int) = c - 48 by omega]
    rfl
theorem map_dg (T : List Int) (h : dgI T) : ∀ b ∈ T.map byteOf, isDg b := by
  intro b hb
  obtain ⟨c, hc, rfl⟩ := List.mem_map.1 hb
  have h1 := h c hc
  have h2 := byteOf_toNat c (by omega)
  unfold isDg; omega
/-- A text of figures from a place on, noughts ahead of it: the number's figures. -/
theorem spec_trim_l0 (s : ByteArray) (hs : s.size ≤ 100000) (hd : ∀ b ∈ s.data.toList, isDg b) : ∀ (d i : Nat), s.size - i = d → i + 1 ≤ s.size → valD (s.data.toList.drop i) = valD s.data.toList →
    Ev (fun k => spec_l06Trim.l0 k s (i : Int)) (decN (valD s.data.toList)) := by
  have hl : ∀ (k i : Nat), spec_l06Trim.l0 (k + 1) s (i : Int) = if (wrap64 ((i : Int) + 1)) < (s.size : Int) then (if 0 ≤ (i : Int) then (if (i : Int) < (s.size : Int) then (if (bt s i) = 48 then (spec_l06Trim.l0 k s (wrap64 ((i : Int) + 1))) else (if (s.size : Int) = 0 then (some (⟨#[48]⟩ : ByteArray)) else (if (i : Int) ≤ (s.size : Int) then (some (s.extract (i : Int).toNat s.size)) else (none)))) else (none)) else (none)) else (if (s.size : Int) = 0 then (some (⟨#[48]⟩ : ByteArray)) else (if 0 ≤ (i : Int) then (if (i : Int) ≤ (s.size : Int) then (some (s.extract (i : Int).toNat s.size)) else (none)) else (none))) := fun _ _ => rfl
  have hend : ∀ i : Nat, i + 1 ≤ s.size → valD (s.data.toList.drop i) = valD s.data.toList → (i + 1 < s.size → bt s i ≠ 48) → s.extract i s.size = decN (valD s.data.toList) := by
    intro i hi hv hb
    have hdat : (s.extract i s.size).data.toList = s.data.toList.drop i := by
      simp
      exact List.take_of_length_le (by rw [List.length_drop, size_data]; omega)
    have hsz : (s.extract i s.size).size = s.size - i := by simp
    rw [← hv, ← hdat]
    refine (decN_of (s.extract i s.size) ?_ (by omega) ?_).symm
    · rw [hdat]; intro b hb2; exact hd b (List.mem_of_mem_drop hb2)
    · intro ⟨h1, h2⟩
      have h3 := bt_list (s.extract i s.size) 0 (by omega)
      have h4 := bt_list s i (by omega)
      have h5 : (s.extract i s.size).data.toList[0]'(by rw [size_data]; omega) = s.data.toList[i]'(by rw [size_data]; omega) := by
        simp only [hdat]
        rw [List.getElem_drop]; rfl
      rw [h5, ← h4] at h3
      have h6 : bt (s.extract i s.size) ((0 : Nat) : Int) = 48 := h1
      rw [h6] at h3
      exact hb (by omega) h3.symm
  intro d
  induction d with
  | zero => intro i hd2 hi; omega
  | succ d ih =>
    intro i hd2 hi hv
    by_cases h1 : i + 1 < s.size
    · by_cases hb : bt s i = 48
      · have hdr := List.drop_eq_getElem_cons (l := s.data.toList) (i := i) (by rw [size_data]; omega)
        have hbi := bt_list s i (by omega)
        have hv2 : valD (s.data.toList.drop (i + 1)) = valD s.data.toList := by
          rw [← hv, hdr, valD_cons]
          have : (s.data.toList[i]'(by rw [size_data]; omega)).toNat = 48 := by omega
          rw [this]; simp
        exact Ev.step (fun k => by rw [hl, w64s (by omega), if_pos (by omega), if_pos (by omega), if_pos (by omega), if_pos hb]) (ih (i + 1) (by omega) (by omega) hv2)
      · rw [← hend i hi hv (fun _ => hb)]
        exact Ev.step (f := fun _ => some (s.extract i s.size)) (fun k => by rw [hl, w64s (by omega), if_pos (by omega), if_pos (by omega), if_pos (by omega), if_neg hb, if_neg (by omega), if_pos (by omega), Int.toNat_natCast]) (Ev.now _)
    · rw [← hend i hi hv (fun h => absurd h h1)]
      exact Ev.step (f := fun _ => some (s.extract i s.size)) (fun k => by rw [hl, w64s (by omega), if_neg (by omega), if_neg (by omega), if_pos (by omega), if_pos (by omega), Int.toNat_natCast]) (Ev.now _)
theorem spec_trim (s : ByteArray) (hs : s.size ≤ 100000) (hd : ∀ b ∈ s.data.toList, isDg b) : Ev (fun k => spec_l06Trim.f k s) (decN (valD s.data.toList)) := by
  unfold spec_l06Trim.f
  by_cases h0 : s.size = 0
  · have hnil : s.data.toList = [] := List.eq_nil_of_length_eq_zero (by rw [size_data]; exact h0)
    rw [hnil]
    exact Ev.step (f := fun _ => some (⟨#[48]⟩ : ByteArray)) (fun k => by simp only [spec_l06Trim.l0]; rw [w64 (by omega) (by omega), if_neg (by omega), if_pos (by omega)]) (Ev.now _)
  · exact spec_trim_l0 s hs hd s.size 0 (by omega) (by omega) (by simp)
def E9 : Int := 1000000000
theorem e9 (i : Nat) : E9 ^ i = 10 ^ (9 * i) := by
  have : E9 = 10 ^ 9 := rfl
  rw [this, ← Int.pow_mul]
/-- One limb's nine figures. -/
theorem spec_text_l1 (L : List Int) (hL : L.length ≤ 10000) (i : Nat) (hi : i < L.length) (r : ByteArray) : ∀ (d k : Nat) (x : Int) (T : List Int), 9 - k = d → k ≤ 9 → T.length = 9 * i + k → dgI T → 0 ≤ x → x < 10 ^ (9 - k) →
    (∀ T' : List Int, T'.length = 9 * (i + 1) → dgI T' → vM T' = vM T + 10 ^ (9 * i + k) * x → Ev (fun n => spec_l06Text.l0 n L (List.replicate (9 * L.length - 9 * (i + 1)) 0 ++ T') ((i + 1 : Nat) : Int)) r) →
    Ev (fun n => spec_l06Text.l1 n L (List.replicate (9 * L.length - (9 * i + k)) 0 ++ T) (i : Int) x (k : Int)) r := by
  intro d
  induction d with
  | zero =>
    intro k x T hd hk hT hT2 hx0 hx1 hc
    obtain rfl : k = 9 := by omega
    have hx : x = 0 := by
      have : (10 : Int) ^ (9 - 9) = 1 := rfl
      omega
    subst hx
    refine Ev.step (fun n => ?_) (hc T (by omega) hT2 (by omega))
    simp only [spec_l06Text.l1]
    rw [if_neg (by omega), w64s (by omega), show 9 * i + 9 = 9 * (i + 1) by omega]
  | succ d ih =>
    intro k x T hd hk hT hT2 hx0 hx1 hc
    have hpw : (10 : Int) ^ (9 - k) = 10 * 10 ^ (9 - (k + 1)) := by
      rw [show 9 - k = (9 - (k + 1)) + 1 by omega, Int.pow_succ, Int.mul_comm]
    have hx9 : x < 1000000000 := by
      have h1 : (10 : Int) ^ (9 - k) ≤ 10 ^ 9 := by
        rw [show (10 : Int) ^ (9 - k) = ((10 ^ (9 - k) : Nat) : Int) by rw [Int.natCast_pow]; rfl]
        have := Nat.pow_le_pow_right (n := 10) (by omega) (show 9 - k ≤ 9 by omega)
        have h2 : (10 : Int) ^ 9 = 1000000000 := rfl
        omega
      have h2 : (10 : Int) ^ 9 = 1000000000 := rfl
      omega
    have h' := ih (k + 1) (x / 10) ((48 + x % 10) :: T) (by omega) (by omega) (by simp; omega) (by
      intro c hcm
      rcases List.mem_cons.1 hcm with e | e
      · omega
      · exact hT2 c e) (by omega) (by
      rw [hpw] at hx1
      generalize (10 : Int) ^ (9 - (k + 1)) = q at *
      omega) (by
      intro T' h1 h2 h3
      refine hc T' h1 h2 ?_
      rw [h3]
      simp only [vM]
      rw [hT, show 9 * i + (k + 1) = (9 * i + k) + 1 by omega, Int.pow_succ]
      generalize (10 : Int) ^ (9 * i + k) = q
      have : x = 10 * (x / 10) + x % 10 := by omega
      generalize x / 10 = u at *
      generalize x % 10 = v at *
      subst this
      grind)
    refine Ev.step (fun n => ?_) h'
    have e1 : wrap64 (wrap64 (wrap64 (9 * wrap64 ((L.length : Int) - (i : Int))) - 1) - (k : Int)) = ((9 * L.length - (9 * i + (k + 1)) : Nat) : Int) := by
      rw [w64 (x := (L.length : Int) - (i : Int)) (by omega) (by omega), w64 (x := 9 * ((L.length : Int) - (i : Int))) (by omega) (by omega), w64 (x := 9 * ((L.length : Int) - (i : Int)) - 1) (by omega) (by omega), w64 (by omega) (by omega)]
      omega
    simp only [spec_l06Text.l1]
    rw [if_pos (by omega), e1, if_pos (by omega), if_pos (by simp; omega), tmodN hx0, tdivN hx0, w64 (x := x / 10) (by omega) (by omega), w64 (x := 48 + x % 10) (by omega) (by omega), show (48 + x % 10) % 256 = 48 + x % 10 by omega, w64s (by omega), Int.toNat_natCast,
      show 9 * L.length - (9 * i + k) = (9 * L.length - (9 * i + (k + 1))) + 1 by omega, set_last]
theorem spec_text_l0 (L : List Int) (hL : L.length ≤ 10000) (h9 : ∀ x ∈ L, 0 ≤ x ∧ x < E9) : ∀ (d i : Nat) (T : List Int), L.length - i = d → i ≤ L.length → T.length = 9 * i → dgI T → vM T = valI E9 (L.take i) →
    Ev (fun n => spec_l06Text.l0 n L (List.replicate (9 * L.length - 9 * i) 0 ++ T) (i : Int)) (decN (valI E9 L).toNat) := by
  intro d
  induction d with
  | zero =>
    intro i T hd hi hT hT2 hv
    obtain rfl : i = L.length := by omega
    rw [List.take_of_length_le (by omega)] at hv
    have hz : 9 * L.length - 9 * L.length = 0 := by omega
    have hdg := map_dg T hT2
    rw [← str_data T] at hdg
    have htr := spec_trim (strOfNums T) (by rw [str_size]; omega) hdg
    have hvd := vM_valD T hT2
    rw [str_data, show valD (T.map byteOf) = (valI E9 L).toNat by omega] at htr
    refine Ev.step (fun n => ?_) (Ev.bind htr (Ev.now _))
    simp only [spec_l06Text.l0]
    rw [if_neg (by omega), hz, List.replicate_zero, List.nil_append]
  | succ d ih =>
    intro i T hd hi hT hT2 hv
    have hx := h9 _ (getD_mem L i (by omega))
    have h10 : (10 : Int) ^ (9 - 0) = E9 := rfl
    have h1 := spec_text_l1 L hL i (by omega) (decN (valI E9 L).toNat) 9 0 (L.getD i 0) T rfl (by omega) (by omega) hT2 hx.1 (by rw [h10]; exact hx.2) (by
      intro T' h2 h3 h4
      refine ih (i + 1) T' (by omega) (by omega) h2 h3 ?_
      rw [h4, hv, valI_take_succ E9 L i (by omega), e9]
      rfl)
    refine Ev.step (fun n => ?_) h1
    simp only [spec_l06Text.l0]
    rw [if_pos (by omega), if_pos (by omega), rd_nat]
    rfl
theorem spec_text (L : List Int) (hL : L.length ≤ 10000) (h9 : ∀ x ∈ L, 0 ≤ x ∧ x < E9) : Ev (fun n => spec_l06Text.f n L) (decN (valI E9 L).toNat) := by
  have h := spec_text_l0 L hL h9 L.length 0 [] (by omega) (by omega) rfl (by intro c hc; simp at hc) (by simp [vM, valI])
  unfold spec_l06Text.f
  rw [w64 (x := 9 * (L.length : Int)) (by omega) (by omega), show 9 * (L.length : Int) = ((9 * L.length : Nat) : Int) by omega, Int.toNat_natCast]
  simp only [if_pos (show (0 : Int) ≤ ((9 * L.length : Nat) : Int) by omega), if_pos (show 9 * L.length ≤ 281474976710656 by omega)]
  simpa using h
theorem spec_at (l : List Int) (i : Nat) : spec_l06At.f l (i : Int) = some (l.getD i 0) := by
  unfold spec_l06At.f
  by_cases h : i < l.length
  · rw [if_neg (by omega), if_pos (by omega), if_pos (by omega), rd_nat]
  · rw [if_pos (by omega), getD_out l i (by omega)]
theorem valI_take_succ' (B : Int) (l : List Int) (i : Nat) : valI B (l.take (i + 1)) = valI B (l.take i) + B ^ i * l.getD i 0 := by
  by_cases h : i < l.length
  · exact valI_take_succ B l i h
  · rw [getD_out l i (by omega), List.take_of_length_le (by omega), List.take_of_length_le (by omega)]
    simp
theorem getD_range (B : Int) (hB : 0 < B) (l : List Int) (h : ∀ x ∈ l, 0 ≤ x ∧ x < B) (i : Nat) : 0 ≤ l.getD i 0 ∧ l.getD i 0 < B := by
  by_cases hi : i < l.length
  · exact h _ (getD_mem l i hi)
  · rw [getD_out l i (by omega)]; omega
/-- A row of the product: one limb of A with all of C. -/
theorem spec_mul_l1 (A C : List Int) (hA : ∀ x ∈ A, 0 ≤ x ∧ x < E9) (hC : ∀ x ∈ C, 0 ≤ x ∧ x < E9) (hlA : A.length ≤ 5000) (hlC : C.length ≤ 5000) (i : Nat) (hi : i < A.length) (W : Int) :
    ∀ (d k : Nat) (out : List Int) (c : Int), C.length + 1 - k = d → k ≤ C.length + 1 → out.length = A.length + C.length + 1 → (∀ j, 0 ≤ out.getD j 0 ∧ out.getD j 0 < E9) → (0 ≤ c ∧ c < E9) → (k = C.length + 1 → c = 0) → (k ≤ C.length → out.getD (i + C.length) 0 = 0) → (∀ j, i + C.length < j → out.getD j 0 = 0) → valI E9 out + E9 ^ (i + k) * c = W + A.getD i 0 * E9 ^ i * valI E9 (C.take k) →
    ∃ out' : List Int, out'.length = A.length + C.length + 1 ∧ (∀ j, 0 ≤ out'.getD j 0 ∧ out'.getD j 0 < E9) ∧ (∀ j, i + 1 + C.length ≤ j → out'.getD j 0 = 0) ∧ valI E9 out' = W + A.getD i 0 * E9 ^ i * valI E9 C ∧ ∀ r, Ev (fun n => spec_l06Mul.l0 n A C out' ((i + 1 : Nat) : Int)) r → Ev (fun n => spec_l06Mul.l1 n A C out (i : Int) c (k : Int)) r := by
  have hE : E9 = 1000000000 := rfl
  have hl : ∀ (n : Nat) (out : List Int) (c : Int) (k : Nat), spec_l06Mul.l1 (n + 1) A C out (i : Int) c (k : Int) =
      (let body : Option (List Int) := if 0 ≤ (wrap64 ((i : Int) + k)) then (if (wrap64 ((i : Int) + k)) < (out.length : Int) then (if 0 ≤ (i : Int) then (if (i : Int) < (A.length : Int) then ((spec_l06At.f C k).bind fun t114 => (spec_l06Mul.l1 n A C (out.set ((wrap64 ((i : Int) + k)) : Int).toNat (Int.tmod (wrap64 ((wrap64 ((rd out (wrap64 ((i : Int) + k))) + c)) + (wrap64 ((rd A i) * t114)))) 1000000000)) i (wrap64 (Int.tdiv (wrap64 ((wrap64 ((rd out (wrap64 ((i : Int) + k))) + c)) + (wrap64 ((rd A i) * t114)))) 1000000000)) (wrap64 ((k : Int) + 1)))) else (none)) else (none)) else (none)) else (none)
       if (k : Int) < (C.length : Int) then body else (if c > 0 then body else (spec_l06Mul.l0 n A C out (wrap64 ((i : Int) + 1))))) := fun _ _ _ _ => rfl
  intro d
  have hstop : ∀ (k : Nat) (out : List Int), C.length ≤ k → k ≤ C.length + 1 → out.length = A.length + C.length + 1 → (∀ j, 0 ≤ out.getD j 0 ∧ out.getD j 0 < E9) → (k ≤ C.length → out.getD (i + C.length) 0 = 0) → (∀ j, i + C.length < j → out.getD j 0 = 0) → valI E9 out + E9 ^ (i + k) * 0 = W + A.getD i 0 * E9 ^ i * valI E9 (C.take k) →
      ∃ out' : List Int, out'.length = A.length + C.length + 1 ∧ (∀ j, 0 ≤ out'.getD j 0 ∧ out'.getD j 0 < E9) ∧ (∀ j, i + 1 + C.length ≤ j → out'.getD j 0 = 0) ∧ valI E9 out' = W + A.getD i 0 * E9 ^ i * valI E9 C ∧ ∀ r, Ev (fun n => spec_l06Mul.l0 n A C out' ((i + 1 : Nat) : Int)) r → Ev (fun n => spec_l06Mul.l1 n A C out (i : Int) 0 (k : Int)) r := by
    intro k out hk hk2 hol ho _ hz hv
    rw [List.take_of_length_le hk, Int.mul_zero, Int.add_zero] at hv
    refine ⟨out, hol, ho, (fun j hj => hz j (by omega)), hv, fun r hr => Ev.step (fun n => ?_) hr⟩
    rw [hl]
    simp only
    rw [if_neg (by omega), if_neg (by omega), w64s (by omega)]
  induction d with
  | zero =>
    intro k out c hd hk hol ho hc hc0 hz1 hz hv
    have hk' : k = C.length + 1 := by omega
    obtain rfl := hc0 hk'
    exact hstop k out (by omega) hk hol ho hz1 hz hv
  | succ d ih =>
    intro k out c hd hk hol ho hc hc0 hz1 hz hv
    by_cases hgo : k < C.length ∨ c > 0
    · have hkC : k ≤ C.length := by
        rcases Nat.lt_or_ge k (C.length + 1) with h | h
        · omega
        · exact absurd (hc0 (by omega)) (by omega)
      have ha := getD_range E9 (by decide) A hA i
      have hb := getD_range E9 (by decide) C hC k
      have hob := ho (i + k)
      have hvC := valI_take_succ' E9 C k
      have hm0 : 0 ≤ A.getD i 0 * C.getD k 0 := Int.mul_nonneg ha.1 hb.1
      have hm1 : A.getD i 0 * C.getD k 0 ≤ 999999999 * 999999999 := by
        have := Int.mul_le_mul (show A.getD i 0 ≤ 999999999 by omega) (show C.getD k 0 ≤ 999999999 by omega) hb.1 (by omega)
        exact this
      generalize hx : out.getD (i + k) 0 + c + A.getD i 0 * C.getD k 0 = x
      have hx0 : 0 ≤ x ∧ x < 1000000000 * 1000000000 := by omega
      have hset := valI_set E9 (x % 1000000000) out (i + k) (by omega)
      have hv' : valI E9 (out.set (i + k) (x % 1000000000)) + E9 ^ (i + (k + 1)) * (x / 1000000000) = W + A.getD i 0 * E9 ^ i * valI E9 (C.take (k + 1)) := by
        rw [hset, hvC, show i + (k + 1) = (i + k) + 1 by omega, Int.pow_succ]
        rw [Int.mul_add]
        have hpa : A.getD i 0 * E9 ^ i * (E9 ^ k * C.getD k 0) = E9 ^ (i + k) * (A.getD i 0 * C.getD k 0) := by
          rw [Int.pow_add]
          generalize E9 ^ i = p
          generalize E9 ^ k = q
          grind
        rw [hpa]
        have hxx : x = 1000000000 * (x / 1000000000) + x % 1000000000 := by omega
        rw [hE] at hv ⊢
        generalize (1000000000 : Int) ^ (i + k) = P at hv ⊢
        have q1 : P * x = P * out.getD (i + k) 0 + P * c + P * (A.getD i 0 * C.getD k 0) := by rw [← hx, Int.mul_add, Int.mul_add]
        have q2 : P * x = 1000000000 * (P * (x / 1000000000)) + P * (x % 1000000000) := by
          conv => lhs; rw [hxx]
          rw [Int.mul_add, Int.mul_left_comm]
        have q3 : P * 1000000000 * (x / 1000000000) = 1000000000 * (P * (x / 1000000000)) := by rw [Int.mul_assoc, Int.mul_left_comm]
        rw [q3, Int.mul_sub]
        omega
      have hset_get : ∀ j, (out.set (i + k) (x % 1000000000)).getD j 0 = if j = i + k then x % 1000000000 else out.getD j 0 := by
        intro j
        by_cases h : j = i + k
        · subst h; rw [if_pos rfl, getD_set_eq _ _ _ (by omega)]
        · rw [if_neg h, getD_set_ne _ _ _ _ (fun h2 => h h2.symm)]
      have h' := ih (k + 1) (out.set (i + k) (x % 1000000000)) (x / 1000000000) (by omega) (by omega) (by simp; omega) (by
        intro j
        rw [hset_get]
        split
        · omega
        · exact ho j) (by omega) (by
        intro hk1
        have hkc : k = C.length := by omega
        have h0 : C.getD k 0 = 0 := getD_out C k (by omega)
        have h1 : out.getD (i + k) 0 = 0 := by rw [hkc]; exact hz1 (by omega)
        rw [h0, h1, Int.mul_zero] at hx
        omega) (by
        intro hk1
        rw [hset_get, if_neg (by omega)]
        exact hz1 (by omega)) (by
        intro j hj
        rw [hset_get, if_neg (by omega)]
        exact hz j hj) hv'
      obtain ⟨out', p1, p2, p3, p4, p5⟩ := h'
      refine ⟨out', p1, p2, p3, p4, fun r hr => Ev.step (fun n => ?_) (p5 r hr)⟩
      rw [hl]
      simp only
      clear hv' hset hvC hv hstop ih hset_get p2 p3 p4 p5 hr ho hz
      have f1 : (0 : Int) ≤ ((i + k : Nat) : Int) := by omega
      have f2 : ((i + k : Nat) : Int) < (out.length : Int) := by omega
      have f3 : (0 : Int) ≤ (i : Int) := by omega
      have f4 : (i : Int) < (A.length : Int) := by omega
      have b1 : -9223372036854775808 ≤ out.getD (i + k) 0 + c ∧ out.getD (i + k) 0 + c < 9223372036854775808 := by omega
      have b2 : -9223372036854775808 ≤ A.getD i 0 * C.getD k 0 ∧ A.getD i 0 * C.getD k 0 < 9223372036854775808 := by omega
      have b3 : -9223372036854775808 ≤ x ∧ x < 9223372036854775808 := by omega
      have b4 : -9223372036854775808 ≤ x / 1000000000 ∧ x / 1000000000 < 9223372036854775808 := by omega
      have b5 : k < 9223372036854775807 := by omega
      have b6 : -9223372036854775808 ≤ (i : Int) + (k : Int) ∧ (i : Int) + (k : Int) < 9223372036854775808 := by omega
      have g1 : (k : Int) < (C.length : Int) ∨ (¬ (k : Int) < (C.length : Int) ∧ c > 0) := by omega
      have hw : wrap64 ((i : Int) + (k : Int)) = ((i + k : Nat) : Int) := w64 b6.1 b6.2
      have hbody : (if 0 ≤ (wrap64 ((i : Int) + k)) then (if (wrap64 ((i : Int) + k)) < (out.length : Int) then (if 0 ≤ (i : Int) then (if (i : Int) < (A.length : Int) then ((spec_l06At.f C k).bind fun t114 => (spec_l06Mul.l1 n A C (out.set ((wrap64 ((i : Int) + k)) : Int).toNat (Int.tmod (wrap64 ((wrap64 ((rd out (wrap64 ((i : Int) + k))) + c)) + (wrap64 ((rd A i) * t114)))) 1000000000)) i (wrap64 (Int.tdiv (wrap64 ((wrap64 ((rd out (wrap64 ((i : Int) + k))) + c)) + (wrap64 ((rd A i) * t114)))) 1000000000)) (wrap64 ((k : Int) + 1)))) else (none)) else (none)) else (none)) else (none)) = spec_l06Mul.l1 n A C (out.set (i + k) (x % 1000000000)) i (x / 1000000000) ((k + 1 : Nat) : Int) := by
        rw [hw, if_pos f1, if_pos f2, if_pos f3, if_pos f4, spec_at]
        simp only [Option.bind_some]
        rw [rd_nat, rd_nat, w64 b1.1 b1.2, w64 b2.1 b2.2, hx, w64 b3.1 b3.2, tmodN hx0.1, tdivN hx0.1, w64 b4.1 b4.2, w64s b5, Int.toNat_natCast]
      rw [hbody]
      rcases g1 with h3 | h3
      · rw [if_pos h3]
      · rw [if_neg h3.1, if_pos h3.2]
    · obtain rfl : c = 0 := by omega
      exact hstop k out (by omega) hk hol ho hz1 hz hv
theorem spec_mul_l0 (A C : List Int) (hA : ∀ x ∈ A, 0 ≤ x ∧ x < E9) (hC : ∀ x ∈ C, 0 ≤ x ∧ x < E9) (hlA : A.length ≤ 5000) (hlC : C.length ≤ 5000) :
    ∀ (d i : Nat) (out : List Int), A.length - i = d → i ≤ A.length → out.length = A.length + C.length + 1 → (∀ j, 0 ≤ out.getD j 0 ∧ out.getD j 0 < E9) → (∀ j, i + C.length ≤ j → out.getD j 0 = 0) → valI E9 out = valI E9 (A.take i) * valI E9 C →
    ∃ L : List Int, Ev (fun n => spec_l06Mul.l0 n A C out (i : Int)) L ∧ L.length = A.length + C.length + 1 ∧ (∀ j, 0 ≤ L.getD j 0 ∧ L.getD j 0 < E9) ∧ valI E9 L = valI E9 A * valI E9 C := by
  intro d
  induction d with
  | zero =>
    intro i out hd hi hol ho hz hv
    obtain rfl : i = A.length := by omega
    rw [List.take_of_length_le (by omega)] at hv
    exact ⟨out, Ev.step (f := fun _ => some out) (fun n => by simp only [spec_l06Mul.l0]; rw [if_neg (by omega)]) (Ev.now _), hol, ho, hv⟩
  | succ d ih =>
    intro i out hd hi hol ho hz hv
    have hvA := valI_take_succ' E9 A i
    have h9 : (0 : Int) < E9 := by decide
    obtain ⟨out', p1, p2, p3, p4, p5⟩ := spec_mul_l1 A C hA hC hlA hlC i (by omega) (valI E9 (A.take i) * valI E9 C) (C.length + 1) 0 out 0 (by omega) (by omega) hol ho (by omega) (by omega) (fun _ => hz _ (by omega)) (fun j hj => hz j (by omega)) (by rw [hv]; simp [valI])
    obtain ⟨L, h1, h2⟩ := ih (i + 1) out' (by omega) (by omega) p1 p2 (fun j hj => p3 j (by omega)) (by
      rw [p4, hvA, Int.add_mul]
      rw [Int.mul_comm (E9 ^ i)])
    refine ⟨L, ?_, h2⟩
    refine Ev.step (fun n => ?_) (p5 L h1)
    simp only [spec_l06Mul.l0]
    rw [if_pos (by omega)]
    rfl
theorem getD_all (B : Int) (L : List Int) (h : ∀ j, 0 ≤ L.getD j 0 ∧ L.getD j 0 < B) : ∀ x ∈ L, 0 ≤ x ∧ x < B := by
  intro x hx
  obtain ⟨j, hj, rfl⟩ := List.getElem_of_mem hx
  have := h j
  rw [List.getD_eq_getElem?_getD, List.getElem?_eq_getElem hj] at this
  exact this
theorem spec_mul (A C : List Int) (hA : ∀ x ∈ A, 0 ≤ x ∧ x < E9) (hC : ∀ x ∈ C, 0 ≤ x ∧ x < E9) (hlA : A.length ≤ 5000) (hlC : C.length ≤ 5000) :
    ∃ L : List Int, Ev (fun n => spec_l06Mul.f n A C) L ∧ L.length = A.length + C.length + 1 ∧ (∀ x ∈ L, 0 ≤ x ∧ x < E9) ∧ valI E9 L = valI E9 A * valI E9 C := by
  have h9 : (0 : Int) < E9 := by decide
  obtain ⟨L, h1, h2, h3, h4⟩ := spec_mul_l0 A C hA hC hlA hlC A.length 0 (List.replicate (A.length + C.length + 1) 0) (by omega) (by omega) (by simp) (fun j => by rw [getD_zeros]; omega) (fun j _ => getD_zeros _ _) (by rw [valI_zeros]; simp [valI])
  refine ⟨L, ?_, h2, getD_all E9 L h3, h4⟩
  unfold spec_l06Mul.f
  rw [w64 (x := (A.length : Int) + (C.length : Int)) (by omega) (by omega), w64 (x := (A.length : Int) + (C.length : Int) + 1) (by omega) (by omega), show (A.length : Int) + (C.length : Int) + 1 = ((A.length + C.length + 1 : Nat) : Int) by omega, Int.toNat_natCast]
  simp only [if_pos (show (0 : Int) ≤ ((A.length + C.length + 1 : Nat) : Int) by omega), if_pos (show A.length + C.length + 1 ≤ 35184372088832 by omega)]
  exact h1
/-- Noughts ahead taken off: the same number. -/
theorem spec_short_l0 (L : List Int) (hl : L.length ≤ 100000) (h9 : ∀ x ∈ L, 0 ≤ x ∧ x < E9) : ∀ n : Nat, n ≤ L.length → valI E9 (L.take n) = valI E9 L →
    ∃ L' : List Int, Ev (fun k => spec_l06Short.l0 k L (n : Int)) L' ∧ L'.length ≤ L.length ∧ (∀ x ∈ L', 0 ≤ x ∧ x < E9) ∧ valI E9 L' = valI E9 L := by
  have hr : ∀ (k n : Nat), spec_l06Short.l0 (k + 1) L (n : Int) = if (n : Int) > 1 then (if 0 ≤ (wrap64 ((n : Int) - 1)) then (if (wrap64 ((n : Int) - 1)) < (L.length : Int) then (if (rd L (wrap64 ((n : Int) - 1))) = 0 then (spec_l06Short.l0 k L (wrap64 ((n : Int) - 1))) else (if 0 ≤ (n : Int) then (if (n : Int) ≤ (L.length : Int) then (some (L.take (n : Int).toNat)) else (none)) else (none))) else (none)) else (none)) else (if 0 ≤ (n : Int) then (if (n : Int) ≤ (L.length : Int) then (some (L.take (n : Int).toNat)) else (none)) else (none)) := fun _ _ => rfl
  intro n
  induction n with
  | zero =>
    intro hn hv
    refine ⟨L.take 0, ?_, by simp, by simp, hv⟩
    exact Ev.step (f := fun _ => some (L.take 0)) (fun k => by rw [hr, if_neg (by omega), if_pos (by omega), if_pos (by omega)]; rfl) (Ev.now _)
  | succ n ih =>
    intro hn hv
    have hend : (L.take (n + 1)).length ≤ L.length ∧ (∀ x ∈ L.take (n + 1), 0 ≤ x ∧ x < E9) ∧ valI E9 (L.take (n + 1)) = valI E9 L :=
      ⟨by rw [List.length_take]; omega, fun x hx => h9 x (List.mem_of_mem_take hx), hv⟩
    have f1 : (0 : Int) ≤ ((n + 1 : Nat) : Int) := by omega
    have f2 : ((n + 1 : Nat) : Int) ≤ (L.length : Int) := by omega
    by_cases h1 : 1 < n + 1
    · have e : wrap64 (((n + 1 : Nat) : Int) - 1) = (n : Int) := by rw [w64 (by omega) (by omega)]; omega
      have f3 : ((n + 1 : Nat) : Int) > 1 := by omega
      have f4 : (0 : Int) ≤ (n : Int) := by omega
      have f5 : (n : Int) < (L.length : Int) := by omega
      by_cases h0 : L.getD n 0 = 0
      · have hv2 : valI E9 (L.take n) = valI E9 L := by
          rw [← hv, valI_take_succ E9 L n (by omega), h0, Int.mul_zero, Int.add_zero]
        obtain ⟨L', h2, h3⟩ := ih (by omega) hv2
        exact ⟨L', Ev.step (fun k => by rw [hr, if_pos f3, e, if_pos f4, if_pos f5, rd_nat, if_pos h0]) h2, h3⟩
      · exact ⟨_, Ev.step (f := fun _ => some (L.take (n + 1))) (fun k => by rw [hr, if_pos f3, e, if_pos f4, if_pos f5, rd_nat, if_neg h0, if_pos f1, if_pos f2]; rfl) (Ev.now _), hend⟩
    · exact ⟨_, Ev.step (f := fun _ => some (L.take (n + 1))) (fun k => by rw [hr, if_neg (by omega), if_pos f1, if_pos f2]; rfl) (Ev.now _), hend⟩
theorem spec_short (L : List Int) (hl : L.length ≤ 100000) (h9 : ∀ x ∈ L, 0 ≤ x ∧ x < E9) :
    ∃ L' : List Int, Ev (fun k => spec_l06Short.f k L) L' ∧ L'.length ≤ L.length ∧ (∀ x ∈ L', 0 ≤ x ∧ x < E9) ∧ valI E9 L' = valI E9 L :=
  spec_short_l0 L hl h9 L.length (Nat.le_refl _) (by rw [List.take_of_length_le (Nat.le_refl _)])
theorem spec_mulShort (A C : List Int) (hA : ∀ x ∈ A, 0 ≤ x ∧ x < E9) (hC : ∀ x ∈ C, 0 ≤ x ∧ x < E9) (hlA : A.length ≤ 5000) (hlC : C.length ≤ 5000) :
    ∃ L L' : List Int, Ev (fun n => spec_l06Mul.f n A C) L ∧ Ev (fun k => spec_l06Short.f k L) L' ∧ L'.length ≤ A.length + C.length + 1 ∧ (∀ x ∈ L', 0 ≤ x ∧ x < E9) ∧ valI E9 L' = valI E9 A * valI E9 C := by
  obtain ⟨L, h1, h2, h3, h4⟩ := spec_mul A C hA hC hlA hlC
  obtain ⟨L', g1, g2, g3, g4⟩ := spec_short L (by omega) h3
  exact ⟨L, L', h1, g1, by omega, g3, by rw [g4, h4]⟩
theorem power_odd (k e : Nat) (A C : List Int) (h : e % 2 = 1) (h2 : e < 9223372036854775808) : spec_l06Power.l0 (k + 1) (e : Int) A C = (spec_l06Mul.f k A C).bind fun t132 => ((spec_l06Short.f k t132).bind fun t135 => ((spec_l06Mul.f k C C).bind fun t138 => ((spec_l06Short.f k t138).bind fun t141 => (spec_l06Power.l0 k ((e / 2 : Nat) : Int) t135 t141)))) := by
  simp only [spec_l06Power.l0]
  rw [if_pos (by omega), tmodN (by omega), if_pos (by omega), tdivN (by omega), w64 (by omega) (by omega)]
  rfl
theorem power_even (k e : Nat) (A C : List Int) (h : ¬ e % 2 = 1) (h0 : e ≠ 0) (h2 : e < 9223372036854775808) : spec_l06Power.l0 (k + 1) (e : Int) A C = (spec_l06Mul.f k C C).bind fun t144 => ((spec_l06Short.f k t144).bind fun t147 => (spec_l06Power.l0 k ((e / 2 : Nat) : Int) A t147)) := by
  simp only [spec_l06Power.l0]
  rw [if_pos (by omega), tmodN (by omega), if_neg (by omega), tdivN (by omega), w64 (by omega) (by omega)]
  rfl
theorem power_end (k : Nat) (A C : List Int) : spec_l06Power.l0 (k + 1) ((0 : Nat) : Int) A C = some A := by
  simp only [spec_l06Power.l0]
  rw [if_neg (by omega)]
theorem sq_pow (v : Int) (q : Nat) : (v * v) ^ q = v ^ (2 * q) := by
  have h2 : v ^ 2 = v * v := by simp [Int.pow_succ]
  rw [Int.pow_mul, h2]
theorem power_room (m d : Nat) (hm : (m + 1) * 2 ^ (d + 1) ≤ 4096) : (2 * m + 1 + 1) * 2 ^ d ≤ 4096 ∧ 2 * m + 2 ≤ 4096 ∧ 2 ^ d ≤ 4096 := by
  have hm1 : (m + 1) * 2 ^ (d + 1) = (2 * m + 1 + 1) * 2 ^ d := by rw [Nat.pow_succ, show 2 * m + 1 + 1 = (m + 1) * 2 by omega, Nat.mul_assoc, Nat.mul_comm 2]
  rw [hm1] at hm
  have hp : 1 ≤ 2 ^ d := Nat.one_le_two_pow
  have h1 := Nat.mul_le_mul_left (2 * m + 1 + 1) hp
  have h2 := Nat.mul_le_mul_right (2 ^ d) (show 1 ≤ 2 * m + 1 + 1 by omega)
  rw [Nat.mul_one] at h1
  rw [Nat.one_mul] at h2
  exact ⟨hm, Nat.le_trans h1 hm, Nat.le_trans h2 hm⟩
theorem half_lt (e d : Nat) (h : e < 2 ^ (d + 1)) : e / 2 < 2 ^ d := by
  rw [Nat.pow_succ] at h
  omega
theorem spec_power_l0 : ∀ (d e m : Nat) (A C : List Int), e < 2 ^ d → (m + 1) * 2 ^ d ≤ 4096 → A.length ≤ m → C.length ≤ m → m ≤ 4096 → e ≤ 4096 → (∀ x ∈ A, 0 ≤ x ∧ x < E9) → (∀ x ∈ C, 0 ≤ x ∧ x < E9) →
    ∃ L : List Int, Ev (fun k => spec_l06Power.l0 k (e : Int) A C) L ∧ L.length ≤ 4096 ∧ (∀ x ∈ L, 0 ≤ x ∧ x < E9) ∧ valI E9 L = valI E9 A * valI E9 C ^ e := by
  intro d
  induction d with
  | zero =>
    intro e m A C he _ hlA hlC hm4 _ hA hC
    obtain rfl : e = 0 := by rw [Nat.pow_zero] at he; omega
    exact ⟨A, Ev.step (f := fun _ => some A) (fun k => power_end k A C) (Ev.now _), Nat.le_trans hlA hm4, hA, by rw [Int.pow_zero, Int.mul_one]⟩
  | succ d ih =>
    intro e m A C he hm hlA hlC hm4 he4 hA hC
    by_cases h0 : e = 0
    · subst h0
      exact ⟨A, Ev.step (f := fun _ => some A) (fun k => power_end k A C) (Ev.now _), Nat.le_trans hlA hm4, hA, by rw [Int.pow_zero, Int.mul_one]⟩
    · obtain ⟨r1, r2, _⟩ := power_room m d hm
      have he2 := half_lt e d he
      clear he hm
      have e64 : e < 9223372036854775808 := by omega
      have l1 : A.length ≤ 5000 := by omega
      have l2 : C.length ≤ 5000 := by omega
      obtain ⟨S, S', s1, s2, s3, s4, s5⟩ := spec_mulShort C C hC hC l2 l2
      have ls : S'.length ≤ 2 * m + 1 := by omega
      have l5 : 2 * m + 1 ≤ 4096 := by omega
      have l6 : e / 2 ≤ 4096 := by omega
      by_cases h1 : e % 2 = 1
      · obtain ⟨T, T', t1, t2, t3, t4, t5⟩ := spec_mulShort A C hA hC l1 l2
        obtain ⟨L, g1, g2, g3, g4⟩ := ih (e / 2) (2 * m + 1) T' S' he2 r1 (by omega) ls l5 l6 t4 s4
        refine ⟨L, Ev.step (fun k => power_odd k e A C h1 e64) (Ev.bind t1 (Ev.bind t2 (Ev.bind s1 (Ev.bind s2 g1)))), g2, g3, ?_⟩
        have hh : e = 2 * (e / 2) + 1 := by omega
        rw [g4, s5, t5, sq_pow]
        have e1 : valI E9 C ^ e = valI E9 C ^ (2 * (e / 2)) * valI E9 C := by
          conv => lhs; rw [hh]
          rw [Int.pow_succ]
        rw [e1, Int.mul_assoc, Int.mul_comm (valI E9 C ^ _)]
      · obtain ⟨L, g1, g2, g3, g4⟩ := ih (e / 2) (2 * m + 1) A S' he2 r1 (by omega) ls l5 l6 hA s4
        refine ⟨L, Ev.step (fun k => power_even k e A C h1 h0 e64) (Ev.bind s1 (Ev.bind s2 g1)), g2, g3, ?_⟩
        rw [g4, s5, sq_pow, show 2 * (e / 2) = e by omega]
theorem spec_power (b e : Nat) (hb : b ≤ 10) (he : e ≤ 1100) : ∃ L : List Int, Ev (fun k => spec_l06Power.f k (b : Int) (e : Int)) L ∧ L.length ≤ 4096 ∧ (∀ x ∈ L, 0 ≤ x ∧ x < E9) ∧ valI E9 L = ((b ^ e : Nat) : Int) := by
  have hE : E9 = 1000000000 := rfl
  obtain ⟨L, h1, h2, h3, h4⟩ := spec_power_l0 11 e 1 [1] [(b : Int)] (Nat.lt_of_le_of_lt he (by decide)) (by decide) (by simp) (by simp) (by omega) (by omega) (by simp [hE]) (by simp [hE]; omega)
  refine ⟨L, h1, h2, h3, ?_⟩
  rw [h4]
  simp [valI]
theorem ev_const {α : Type} {x : Option α} {r : α} (h : x = some r) : Ev (fun _ => x) r := by rw [h]; exact Ev.now r
theorem ev_if {α : Type} {c : Prop} [Decidable c] {f g : Nat → Option α} {r : α} (h : c) (k : Ev f r) : Ev (fun n => if c then f n else g n) r := Ev.congr (fun _ => if_pos h) k
theorem ev_else {α : Type} {c : Prop} [Decidable c] {f g : Nat → Option α} {r : α} (h : ¬ c) (k : Ev g r) : Ev (fun n => if c then f n else g n) r := Ev.congr (fun _ => if_neg h) k
theorem decN_far (v : Nat) (h : 10 ≤ v) : (decN v).data.toList = (decN (v / 10)).data.toList ++ [UInt8.ofNat (48 + v % 10)] := by
  rw [decN_data, decN_data, if_neg (by omega), if_neg (by omega), dgL_pos v (by omega)]
theorem decN_ext {a b : ByteArray} (h : a.data.toList = b.data.toList) : a = b := by
  cases a; cases b
  congr 1
  exact Array.toList_inj.1 h
theorem decN_one (v : Nat) (h : v < 10) : (decN v).size = 1 := by
  have h1 := decN_pos v
  have h2 := (decN_size v 1 (by omega)).2 (by omega)
  omega
theorem decN_more (v : Nat) (h : 10 ≤ v) : 1 < (decN v).size := by
  rcases Nat.lt_or_ge 1 (decN v).size with h1 | h1
  · exact h1
  · have := (decN_size v 1 (by omega)).1 h1; omega
theorem decN_last (v : Nat) (h : 10 ≤ v) : bt (decN v) (((decN v).size - 1 : Nat) : Int) = 48 + ((v % 10 : Nat) : Int) := by
  have h1 := decN_more v h
  rw [bt_list (decN v) ((decN v).size - 1) (by omega)]
  have hd := decN_far v h
  have hl : (decN (v / 10)).data.toList.length = (decN v).size - 1 := by
    have := congrArg List.length hd
    rw [List.length_append, size_data] at this
    simp at this
    rw [size_data]
    omega
  have he : (decN v).data.toList[(decN v).size - 1]? = some (UInt8.ofNat (48 + v % 10)) := by
    rw [hd, List.getElem?_append_right (by omega), hl, Nat.sub_self]; rfl
  rw [List.getElem?_eq_getElem (by rw [size_data]; omega)] at he
  rw [Option.some.inj he]
  have : (UInt8.ofNat (48 + v % 10)).toNat = 48 + v % 10 := by simp; omega
  rw [this]; omega
theorem decN_cut (v : Nat) (h : 10 ≤ v) : (decN v).extract 0 ((decN v).size - 1) = decN (v / 10) := by
  apply decN_ext
  have hd := decN_far v h
  have hl : (decN (v / 10)).data.toList.length = (decN v).size - 1 := by
    have := congrArg List.length hd
    rw [List.length_append, size_data] at this
    simp at this
    rw [size_data]
    omega
  rw [ByteArray.data_extract, Array.toList_extract, List.extract_eq_take_drop, List.drop_zero, Nat.sub_zero, hd, List.take_left' hl]
/-- Noughts at the end are taken off. -/
theorem exact_l0 : ∀ (n v : Nat) (e : Int), v ≤ n → v ≠ 0 → (decN v).size ≤ 5000 → -5000 ≤ e → e ≤ 10000 - (decN v).size → ∃ (u j : Nat), v = u * 10 ^ j ∧ u % 10 ≠ 0 ∧ Ev (fun k => spec_Exact.l0 k e (decN v)) (decN u, e + j) := by
  have hl : ∀ (k : Nat) (e : Int) (s : ByteArray), spec_Exact.l0 (k + 1) e s = if (s.size : Int) > 1 then (if 0 ≤ (wrap64 ((s.size : Int) - 1)) then (if (wrap64 ((s.size : Int) - 1)) < (s.size : Int) then (if (bt s (wrap64 ((s.size : Int) - 1))) = 48 then (if (wrap64 ((s.size : Int) - 1)) ≤ (s.size : Int) then (spec_Exact.l0 k (wrap64 (e + 1)) (s.extract 0 ((wrap64 ((s.size : Int) - 1)) : Int).toNat)) else (none)) else (some (s, e))) else (none)) else (none)) else (some (s, e)) := fun _ _ _ => rfl
  intro n
  induction n with
  | zero => intro v e h1 h2; omega
  | succ n ih =>
    intro v e h1 h2 hs he he2
    by_cases h10 : v < 10
    · have h3 := decN_one v h10
      refine ⟨v, 0, by rw [Nat.pow_zero, Nat.mul_one], by omega, ?_⟩
      rw [show e + ((0 : Nat) : Int) = e by omega]
      exact Ev.step (fun k => hl k e _) (ev_else (by omega) (Ev.now _))
    · have h3 := decN_more v (by omega)
      have h4 := decN_last v (by omega)
      have h5 := decN_cut v (by omega)
      have hw : wrap64 (((decN v).size : Int) - 1) = (((decN v).size - 1 : Nat) : Int) := by rw [w64 (by omega) (by omega)]; omega
      by_cases h0 : v % 10 = 0
      · have hsz : (decN (v / 10)).size + 1 = (decN v).size := by
          have := congrArg List.length (decN_far v (by omega))
          rw [List.length_append, size_data, size_data] at this
          simp at this
          omega
        obtain ⟨u, j, q1, q2, q3⟩ := ih (v / 10) (e + 1) (by omega) (by omega) (by omega) (by omega) (by omega)
        refine ⟨u, j + 1, by rw [Nat.pow_succ, ← Nat.mul_assoc, ← q1]; omega, q2, ?_⟩
        rw [show e + ((j + 1 : Nat) : Int) = e + 1 + (j : Int) by omega]
        refine Ev.step (fun k => hl k e _) ?_
        rw [hw, Int.toNat_natCast, h5, h4, h0, w64 (x := e + 1) (by omega) (by omega)]
        exact ev_if (by omega) (ev_if (by omega) (ev_if (by omega) (ev_if rfl (ev_if (by omega) q3))))
      · refine ⟨v, 0, by rw [Nat.pow_zero, Nat.mul_one], h0, ?_⟩
        rw [show e + ((0 : Nat) : Int) = e by omega]
        refine Ev.step (fun k => hl k e _) ?_
        rw [hw, h4]
        exact ev_if (by omega) (ev_if (by omega) (ev_if (by omega) (ev_else (by omega) (Ev.now _))))
theorem ten_cancel {a b j n m : Nat} (h : a * 5 ^ n = b * 10 ^ j) (hj : (j : Int) - n = m) : a = b * 10 ^ m * 2 ^ n := by
  have e : 10 ^ j = 10 ^ m * (2 ^ n * 5 ^ n) := by rw [← Nat.mul_pow, ← Nat.pow_add]; congr 1; omega
  have h5 : 0 < 5 ^ n := Nat.pow_pos (by omega)
  apply Nat.eq_of_mul_eq_mul_right h5
  rw [h, e]; ac_rfl
theorem ten_cancel2 {a b j n m : Nat} (h : a * 5 ^ n = b * 10 ^ j) (hj : (n : Int) - j = m) : b * 2 ^ n = a * 10 ^ m := by
  have e : 2 ^ n * 5 ^ n = 10 ^ m * 10 ^ j := by rw [← Nat.mul_pow, ← Nat.pow_add]; congr 1; omega
  have h5 : 0 < 10 ^ j := Nat.pow_pos (by omega)
  apply Nat.eq_of_mul_eq_mul_right h5
  calc b * 2 ^ n * 10 ^ j = b * 10 ^ j * 2 ^ n := by ac_rfl
    _ = a * 5 ^ n * 2 ^ n := by rw [h]
    _ = a * (2 ^ n * 5 ^ n) := by ac_rfl
    _ = a * 10 ^ m * 10 ^ j := by rw [e]; ac_rfl
theorem two_ten (k : Nat) : 2 ^ k ≤ 10 ^ (k / 3 + 1) := by
  have h1 : 2 ^ k ≤ 2 ^ (3 * (k / 3 + 1)) := Nat.pow_le_pow_right (by omega) (by omega)
  have h2 : 2 ^ (3 * (k / 3 + 1)) ≤ 10 ^ (k / 3 + 1) := by rw [Nat.pow_mul]; exact Nat.pow_le_pow_left (by decide) _
  exact Nat.le_trans h1 h2
theorem exact_room {M a b n : Nat} (hM : M < 9007199254740992) (hb : b ≤ 10 ^ n) (hb0 : 0 < b) (ha : a = M * b) : a < 10 ^ (16 + n) := by
  have h1 : M * b < 10000000000000000 * b := Nat.mul_lt_mul_of_pos_right (by omega) hb0
  have h2 : 10000000000000000 * b ≤ 10000000000000000 * 10 ^ n := Nat.mul_le_mul_left _ hb
  rw [ha, Nat.pow_add]
  exact Nat.lt_of_lt_of_le h1 h2
theorem exact_figs {V : Nat} (n : Nat) (g : Int) (hV : V ≠ 0) (hroom : V < 10 ^ (16 + n)) (hn : n ≤ 1100) (hg1 : -1074 ≤ g) (hg2 : g ≤ 0) :
    ∃ (u j : Nat), Ev (fun k => spec_Exact.l0 k g (decN V)) (decN u, g + j) ∧ u % 10 ≠ 0 ∧ V = u * 10 ^ j ∧ j < 16 + n ∧ (decN u).size ≤ 5000 := by
  have h1 : 1 ≤ 16 + n := by clear hroom; omega
  have hsz := (decN_size V (16 + n) h1).2 hroom
  have hs5 : (decN V).size ≤ 5000 := by clear hroom; omega
  have hg5 : -5000 ≤ g := by clear hroom; omega
  have hg6 : g ≤ 10000 - ((decN V).size : Int) := by clear hroom; omega
  obtain ⟨u, j, q1, q2, q3⟩ := exact_l0 V V g (Nat.le_refl _) hV hs5 hg5 hg6
  have hu : 1 ≤ u := by clear hroom q1 q3; omega
  have hle : u ≤ V := by rw [q1]; exact Nat.le_mul_of_pos_right _ (Nat.pow_pos (by decide))
  refine ⟨u, j, q3, q2, q1, ?_, Nat.le_trans ((decN_size u (16 + n) h1).2 (Nat.lt_of_le_of_lt hle hroom)) ?_⟩
  · rcases Nat.lt_or_ge j (16 + n) with h | h
    · exact h
    · exfalso
      have k1 : 10 ^ (16 + n) ≤ 10 ^ j := Nat.pow_le_pow_right (by decide) h
      have k2 : 1 * 10 ^ j ≤ u * 10 ^ j := Nat.mul_le_mul_right _ hu
      rw [← q1, Nat.one_mul] at k2
      exact absurd (Nat.lt_of_lt_of_le hroom (Nat.le_trans k1 k2)) (Nat.lt_irrefl _)
  · clear hroom q1 q3; omega
theorem len_room {L P : List Int} {a b : Int} (h : L.length = [a, b].length + P.length + 1) (hp : P.length ≤ 4096) : L.length ≤ 4100 := by
  simp at h
  omega
theorem exact_up {M u n j : Nat} (h : M * 2 ^ n = u * 10 ^ j) : (u * 10 ^ (j : Int).toNat) * 2 ^ (-(n : Int)).toNat = (M * 2 ^ (n : Int).toNat) * 10 ^ (-(j : Int)).toNat := by
  have e1 : (-(n : Int)).toNat = 0 := by clear h; omega
  have e2 : (-(j : Int)).toNat = 0 := by clear h; omega
  rw [e1, e2, Int.toNat_natCast, Int.toNat_natCast, ← h]
theorem exact_down {M u n j : Nat} (h : M * 5 ^ n = u * 10 ^ j) : (u * 10 ^ (-(n : Int) + (j : Int)).toNat) * 2 ^ (- -(n : Int)).toNat = (M * 2 ^ (-(n : Int)).toNat) * 10 ^ (-(-(n : Int) + (j : Int))).toNat := by
  have e1 : (-(n : Int)).toNat = 0 := by clear h; omega
  have e2 : (- -(n : Int)).toNat = n := by clear h; omega
  rw [e1, e2, Nat.pow_zero, Nat.mul_one]
  by_cases hjn : n ≤ j
  · have hc := ten_cancel h (m := j - n) (by clear h; omega)
    have e3 : (-(n : Int) + (j : Int)).toNat = j - n := by clear h hc; omega
    have e4 : (-(-(n : Int) + (j : Int))).toNat = 0 := by clear h hc; omega
    rw [e3, e4, Nat.pow_zero, Nat.mul_one]
    exact hc.symm
  · have hc := ten_cancel2 h (m := n - j) (by clear h; omega)
    have e3 : (-(n : Int) + (j : Int)).toNat = 0 := by clear h hc; omega
    have e4 : (-(-(n : Int) + (j : Int))).toNat = n - j := by clear h hc; omega
    rw [e3, e4, Nat.pow_zero, Nat.mul_one]
    exact hc
/-- What the reference's Exact tells of a finite number. -/
theorem spec_exact {x M : Nat} {s : Bool} {e : Int} (hx : x < 18446744073709551616) (hr : Ieee.double.read x = .number s M e) (hM : M ≠ 0) (hM2 : M < 9007199254740992) (he1 : -1074 ≤ e) (he2 : e ≤ 971) :
    ∃ (u : Nat) (f : Int), Ev (fun k => spec_Exact.f k (x : Int)) (decN u, f) ∧ u % 10 ≠ 0 ∧ -1074 ≤ f ∧ f ≤ 400 ∧ (u * 10 ^ f.toNat) * 2 ^ (-e).toNat = (M * 2 ^ e.toNat) * 10 ^ (-f).toNat ∧ (decN u).size ≤ 5000 := by
  have hp := parts_some hx hr hM
  have hl9 : ∀ y ∈ ([((M % 1000000000 : Nat) : Int), ((M / 1000000000 : Nat) : Int)] : List Int), 0 ≤ y ∧ y < E9 := by
    intro y hy
    unfold E9
    rcases List.mem_cons.1 hy with h | h
    · rw [h]; omega
    · rw [List.mem_singleton.1 h]; omega
  have hv9 : valI E9 [((M % 1000000000 : Nat) : Int), ((M / 1000000000 : Nat) : Int)] = (M : Int) := by
    simp only [valI, E9]; omega
  have hj : ∀ (k : Nat) (L : List Int) (g : Int), spec_Exact.j0 (k + 1) L g = (spec_l06Text.f k L).bind fun t270 => (spec_Exact.l0 k g t270) := fun _ _ _ => rfl
  have w1 : wrap64 (Int.tmod (M : Int) 1000000000) = ((M % 1000000000 : Nat) : Int) := by rw [tmodN (by omega), w64 (by omega) (by omega)]; omega
  have w2 : wrap64 (IntKind.u64.wrap (Int.tdiv (M : Int) 1000000000)) = ((M / 1000000000 : Nat) : Int) := by rw [tdivN (by omega), wu64, Int.emod_eq_of_lt (by omega) (by omega), w64 (by omega) (by omega)]; omega
  have hl2 : (some [wrap64 (Int.tmod (M : Int) 1000000000), wrap64 (IntKind.u64.wrap (Int.tdiv (M : Int) 1000000000))] : Option (List Int)) = some [((M % 1000000000 : Nat) : Int), ((M / 1000000000 : Nat) : Int)] := by rw [w1, w2]
  -- from the limbs on
  have key : ∀ (b n : Nat) (L : List Int) (g : Int), b ≠ 0 → b ≤ 10 ^ n → n ≤ 1100 → -1074 ≤ g → g ≤ 0 → L.length ≤ 4100 → (∀ y ∈ L, 0 ≤ y ∧ y < E9) → valI E9 L = ((M * b : Nat) : Int) →
      ∃ (u j : Nat), Ev (fun k => spec_Exact.j0 k L g) (decN u, g + j) ∧ u % 10 ≠ 0 ∧ M * b = u * 10 ^ j ∧ j < 16 + n ∧ (decN u).size ≤ 5000 := by
    intro b n L g hb0 hb hn hg1 hg2 hLl hL9 hLv
    have hL1 : L.length ≤ 10000 := Nat.le_trans hLl (by omega)
    have ht := spec_text L hL1 hL9
    rw [hLv, Int.toNat_natCast] at ht
    obtain ⟨u, j, q1, q2, q3, q4, q5⟩ := exact_figs n g (Nat.mul_ne_zero hM hb0) (exact_room hM2 hb (Nat.pos_of_ne_zero hb0) rfl) hn hg1 hg2
    exact ⟨u, j, Ev.step (fun k => hj k L g) (Ev.bind ht q1), q2, q3, q4, q5⟩
  by_cases h0 : 0 ≤ e
  · obtain ⟨n, rfl⟩ : ∃ n : Nat, e = n := ⟨e.toNat, by omega⟩
    have k1 : n ≤ 1100 := by omega
    have k2 : n / 3 + 1 ≤ 1100 := by omega
    have k3 : ∀ j : Nat, j < 16 + (n / 3 + 1) → (-1074 : Int) ≤ (j : Int) ∧ (j : Int) ≤ 400 := by intro j hj; omega
    have k5 : (-1074 : Int) ≤ 0 := by decide
    obtain ⟨P, p1, p2, p3, p4⟩ := spec_power 2 n (by decide) k1
    obtain ⟨L, l1, l2, l3, l4⟩ := spec_mul _ P hl9 p3 (by simp) (Nat.le_trans p2 (by decide))
    rw [hv9, p4, ← Int.natCast_mul] at l4
    obtain ⟨u, j, q1, q2, q3, q4, q5⟩ := key (2 ^ n) (n / 3 + 1) L 0 (Nat.ne_of_gt (Nat.pow_pos (by decide))) (two_ten n) k2 k5 (Int.le_refl _) (len_room l2 p2) l3 l4
    refine ⟨u, j, ?_, q2, (k3 j q4).1, (k3 j q4).2, exact_up q3, q5⟩
    unfold spec_Exact.f
    refine Ev.bind hp (ev_if rfl (Ev.bind (ev_const hl2) ?_))
    rw [Int.zero_add] at q1
    exact ev_if h0 (Ev.bind p1 (Ev.bind l1 q1))
  · obtain ⟨n, rfl⟩ : ∃ n : Nat, e = -(n : Int) := ⟨e.natAbs, by omega⟩
    have hwn : wrap64 (n : Int) = (n : Int) := w64 (by omega) (by omega)
    have k1 : n ≤ 1100 := by omega
    have k3 : ∀ j : Nat, j < 16 + n → (-1074 : Int) ≤ -(n : Int) + (j : Int) ∧ -(n : Int) + (j : Int) ≤ 400 := by intro j hj; omega
    have k6 : -(n : Int) ≤ 0 := by omega
    obtain ⟨P, p1, p2, p3, p4⟩ := spec_power 5 n (by decide) k1
    obtain ⟨L, l1, l2, l3, l4⟩ := spec_mul _ P hl9 p3 (by simp) (Nat.le_trans p2 (by decide))
    rw [hv9, p4, ← Int.natCast_mul] at l4
    obtain ⟨u, j, q1, q2, q3, q4, q5⟩ := key (5 ^ n) n L (-(n : Int)) (Nat.ne_of_gt (Nat.pow_pos (by decide))) (Nat.pow_le_pow_left (by decide) n) k1 he1 k6 (len_room l2 p2) l3 l4
    refine ⟨u, -(n : Int) + j, ?_, q2, (k3 j q4).1, (k3 j q4).2, exact_down q3, q5⟩
    unfold spec_Exact.f
    refine Ev.bind hp (ev_if rfl (Ev.bind (ev_const hl2) ?_))
    have hw : wrap64 (- -(n : Int)) = (n : Int) := by rw [Int.neg_neg]; exact hwn
    rw [hw]
    exact ev_else h0 (Ev.bind p1 (Ev.bind l1 q1))
theorem impl_nan (x : Nat) (hx : x < 18446744073709551616) : impl_isNaN.f (x : Int) = some (nanB x) := by
  unfold impl_isNaN.f nanB
  rw [and63 x hx]
  congr 1
  rw [decide_eq_decide]; omega
theorem impl_parts (x : Nat) (hx : x < 18446744073709551616) : Ev (fun k => impl_PartsOfNumber.f k (x : Int)) (partsN x) := by
  unfold impl_PartsOfNumber.f
  rw [impl_nan x hx]
  simp only [Option.bind_some]
  have e1 : wrap64 (Go.bits .and .u64 ((x : Int) / 4503599627370496) 2047) = ((x / 4503599627370496 % 2048 : Nat) : Int) := by
    have h1 := and_u64 (x / 4503599627370496) 2047 (by omega) (by omega)
    rw [show (x / 4503599627370496) &&& 2047 = x / 4503599627370496 % 2048 from mask _ 11] at h1
    rw [show (x : Int) / 4503599627370496 = ((x / 4503599627370496 : Nat) : Int) by omega]
    have h2 : Go.bits .and .u64 (((x / 4503599627370496 : Nat) : Int)) 2047 = ((x / 4503599627370496 % 2048 : Nat) : Int) := h1
    rw [h2, w64 (by omega) (by omega)]
  have e2 : Go.bits .and .u64 (x : Int) 4503599627370495 = ((x % 4503599627370496 : Nat) : Int) := by
    have h1 := and_u64 x 4503599627370495 hx (by omega)
    rw [show x &&& 4503599627370495 = x % 4503599627370496 from mask _ 52] at h1
    exact h1
  have e3 : (((x : Int) / 9223372036854775808) == 1) = decide (9223372036854775808 ≤ x) := by rw [Bool.eq_iff_iff]; simp; omega
  rw [e1, e2, e3]
  generalize hb : decide (9223372036854775808 ≤ x) = b
  have hp : partsN x = if 9218868437227405312 < x % 9223372036854775808 then (1, false, 0, 0)
    else if x % 9223372036854775808 = 9218868437227405312 then (2, b, 0, 0)
    else if x % 9223372036854775808 = 0 then (3, b, 0, 0)
    else if x % 9223372036854775808 < 4503599627370496 then (4, b, ((x % 4503599627370496 : Nat) : Int), -1074)
    else (4, b, ((x % 4503599627370496 + 4503599627370496 : Nat) : Int), ((x / 4503599627370496 % 2048 : Nat) : Int) - 1075) := by unfold partsN; rw [hb]
  rw [hp]
  have hj : ∀ (k : Nat) (f e : Int) (z : Bool), impl_PartsOfNumber.j0 (k + 1) b f e z = if z = true then (some (3, b, 0, 0)) else (if e = 0 then (some (4, b, f, (-1074))) else (some (4, b, Go.bits .or .u64 f 4503599627370496, wrap64 (e - 1075)))) := fun _ _ _ _ => rfl
  by_cases h0 : 9218868437227405312 < x % 9223372036854775808
  · have : nanB x = true := decide_eq_true h0
    rw [if_pos h0]
    simp only [this, if_true]
    exact Ev.now _
  · have : nanB x = false := decide_eq_false h0
    rw [if_neg h0]
    simp only [this, Bool.false_eq_true, if_false]
    by_cases h1 : x / 4503599627370496 % 2048 = 2047
    · simp only [if_pos (show ((x / 4503599627370496 % 2048 : Nat) : Int) = 2047 by omega)]
      rw [if_pos (by omega)]
      exact Ev.now _
    · simp only [if_neg (show ¬ ((x / 4503599627370496 % 2048 : Nat) : Int) = 2047 by omega)]
      rw [if_neg (by omega)]
      by_cases h2 : x / 4503599627370496 % 2048 = 0
      · simp only [if_pos (show ((x / 4503599627370496 % 2048 : Nat) : Int) = 0 by omega)]
        by_cases h3 : x % 4503599627370496 = 0
        · rw [if_pos (by omega)]
          exact Ev.step (f := fun _ => some (3, b, 0, 0)) (fun k => by rw [hj, if_pos (by simp [h3])]) (Ev.now _)
        · rw [if_neg (by omega), if_pos (by omega)]
          exact Ev.step (f := fun _ => some (4, b, ((x % 4503599627370496 : Nat) : Int), -1074)) (fun k => by rw [hj, if_neg (by simp; omega), if_pos (by omega)]) (Ev.now _)
      · simp only [if_neg (show ¬ ((x / 4503599627370496 % 2048 : Nat) : Int) = 0 by omega)]
        rw [if_neg (by omega), if_neg (by omega)]
        refine Ev.step (f := fun _ => some (4, b, ((x % 4503599627370496 + 4503599627370496 : Nat) : Int), ((x / 4503599627370496 % 2048 : Nat) : Int) - 1075)) (fun k => ?_) (Ev.now _)
        have e4 : Go.bits .or .u64 ((x % 4503599627370496 : Nat) : Int) 4503599627370496 = ((x % 4503599627370496 + 4503599627370496 : Nat) : Int) := by
          have h4 := or_u64 (x % 4503599627370496) 4503599627370496 (by omega) (by omega)
          have h5 := join 1 (x % 4503599627370496) 52 (by omega)
          rw [Nat.or_comm, show (2 ^ 52 * 1 : Nat) = 4503599627370496 from rfl] at h5
          rw [h5, Nat.add_comm] at h4
          exact h4
        rw [hj, if_neg (by simp), if_neg (by omega), e4, w64 (by omega) (by omega)]
theorem ev_same {α : Type} {g : Nat → Option α} {a b : α} (ha : Ev g a) (hb : Ev g b) : a = b := by
  obtain ⟨i, hi⟩ := ha
  obtain ⟨j, hj⟩ := hb
  exact Option.some.inj ((hi (i + j) (by omega)).symm.trans (hj (i + j) (by omega)))
theorem sci_given {x u : Nat} {f : Int} (hx : x < 18446744073709551616) (h : SF.Just x u f) : impl_scientific.f (x : Int) 800 = some (decN u, f) := by
  unfold impl_scientific.f G.impl_scientific
  rw [if_pos ⟨by omega, by omega, rfl⟩, Int.toNat_natCast]
  exact G.sciF_is h
theorem exact_bad {x : Nat} (hx : x < 18446744073709551616) {d : Ieee.Datum} (hr : Ieee.double.read x = d) (h4 : (partsR d).1 ≠ 4) :
    Ev (fun k => spec_Exact.f k (x : Int)) ((⟨#[]⟩ : ByteArray), (0 : Int)) ∧ Ev (fun k => impl_Exact.f k (x : Int)) ((⟨#[]⟩ : ByteArray), (0 : Int)) := by
  have he := ev_same (parts_is hx hr) (spec_parts x hx)
  constructor
  · unfold spec_Exact.f
    exact Ev.bind (parts_is hx hr) (ev_else h4 (Ev.now _))
  · unfold impl_Exact.f
    refine Ev.bind (impl_parts x hx) (ev_else ?_ (Ev.now _))
    rw [← he]; exact h4
/-- What both tell of a finite number. -/
theorem exact_good {x M : Nat} {s : Bool} {e : Int} (hx : x < 18446744073709551616) (hr : Ieee.double.read x = .number s M e) (hM : M ≠ 0) :
    ∃ (u : Nat) (f : Int), Ev (fun k => spec_Exact.f k (x : Int)) (decN u, f) ∧ Ev (fun k => impl_Exact.f k (x : Int)) (decN u, f) ∧ u % 10 ≠ 0 ∧ -1074 ≤ f ∧ f ≤ 400 ∧ (u * 10 ^ f.toNat) * 2 ^ (-e).toNat = (M * 2 ^ e.toNat) * 10 ^ (-f).toNat ∧ (decN u).size ≤ 5000 := by
  obtain ⟨_, hM2, he1, he2, _, _, _⟩ := CG.read_num hx hr
  obtain ⟨u, f, q1, q2, q3, q4, q5, q6⟩ := spec_exact hx hr hM hM2 he1 he2
  refine ⟨u, f, q1, ?_, q2, q3, q4, q5, q6⟩
  have he := ev_same (parts_is hx hr) (spec_parts x hx)
  have hs := sci_given hx ⟨q2, s, M, e, hr, hM, q5⟩
  unfold impl_Exact.f
  refine Ev.bind (impl_parts x hx) (ev_if ?_ (Ev.bind (ev_const hs) (Ev.now _)))
  rw [← he]
  simp [partsR, hM]
theorem FnExactExact : laws_FnExactExact.Pure := by
  intro a0 hw
  obtain ⟨h0, h1⟩ := wfu64 hw
  obtain ⟨x, rfl⟩ : ∃ n : Nat, a0 = n := ⟨a0.toNat, by omega⟩
  have hx : x < 18446744073709551616 := by omega
  refine Ev.rounds ?_
  unfold laws_FnExactExact.f
  have key : ∀ (s : ByteArray) (f : Int), Ev (fun k => spec_Exact.f k (x : Int)) (s, f) → Ev (fun k => impl_Exact.f k (x : Int)) (s, f) → Ev (fun k => (spec_Exact.f k (x : Int)).bind fun bt182 => ((impl_Exact.f k (x : Int)).bind fun bt184 => (if bt184.1.toList = bt182.1.toList then (if bt184.2 = bt182.2 then (some true) else (some false)) else (some false)))) true := by
    intro s f h1 h2
    exact Ev.bind h1 (Ev.bind h2 (ev_if rfl (ev_if rfl (Ev.now _))))
  cases hr : Ieee.double.read x with
  | nan s f =>
    obtain ⟨h1, h2⟩ := exact_bad hx hr (by simp [partsR])
    exact key _ _ h1 h2
  | infinity s =>
    obtain ⟨h1, h2⟩ := exact_bad hx hr (by simp [partsR])
    exact key _ _ h1 h2
  | number s M e =>
    by_cases hM : M = 0
    · subst hM
      obtain ⟨h1, h2⟩ := exact_bad hx hr (by simp [partsR])
      exact key _ _ h1 h2
    · obtain ⟨u, f, h1, h2, _⟩ := exact_good hx hr hM
      exact key _ _ h1 h2
end Go.Proofs.YtkjpelgdppmbjaaGreatDoor.Pure
