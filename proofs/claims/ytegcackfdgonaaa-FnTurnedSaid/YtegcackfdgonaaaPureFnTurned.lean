/- A drawn text whose one byte is another is not unsealed; it is unsealed as it was sealed; the sum goes on. No condition but the statement's own. -/
import Derived.Test.YtegcackfdgonaaaMFnTurnedx3
import Derived.Test.YtegcackfdgonaaaMFnTurnedx2
import Derived.Test.YtegcackfdgonaaaMFnTurnedx3
import Derived.Test.YtegcackfdgonaaaCB
namespace Go.Proofs.Ytegcackfdgonaaa.Pure
open Go.RowKit Go.Proofs.Ytegcackfdgonaaa.MFnTurned Go.Proofs.YtegcackfdgonaaaW.PrintWords Go.Proofs.YtegcackfdgonaaaW.PrintLast Go.Proofs.Ytegcackfdgonaaa.CB
/-- One bit of the sum; so many bits; a byte; a text. -/
def step1 (x : Nat) : Nat := if x % 2 = 1 then (x / 2) ^^^ 3558460437 else x / 2
def stepN : Nat → Nat → Nat
  | 0, x => x
  | n + 1, x => stepN n (step1 x)
def sumL : Nat → List UInt8 → Nat
  | x, [] => x
  | x, b :: l => sumL (stepN 8 (x ^^^ b.toNat)) l
theorem step1_lt (x : Nat) (h : x < 4294967296) : step1 x < 4294967296 := by
  unfold step1
  split
  · exact Nat.xor_lt_two_pow (n := 32) (by omega) (by omega)
  · omega
theorem stepN_lt (n : Nat) : ∀ x, x < 4294967296 → stepN n x < 4294967296 := by
  induction n with
  | zero => exact fun x h => h
  | succ n ih => exact fun x h => ih _ (step1_lt x h)
theorem byte_lt (x : Nat) (b : UInt8) (h : x < 4294967296) : x ^^^ b.toNat < 4294967296 :=
  Nat.xor_lt_two_pow (n := 32) (by omega) (by have := b.toNat_lt; omega)
theorem sumL_lt (l : List UInt8) : ∀ x, x < 4294967296 → sumL x l < 4294967296 := by
  induction l with
  | nil => exact fun x h => h
  | cons b l ih => exact fun x h => ih _ (stepN_lt 8 _ (byte_lt x b h))
theorem odd_xor (x : Nat) (h : x < 4294967296) : Go.bits .xor .u32 ((x : Int) / 2) 3558460437 = (((x / 2) ^^^ 3558460437 : Nat) : Int) := by
  have h1 := xor_u32 (x / 2) 3558460437 (by omega) (by omega)
  rw [show ((x : Int) / 2) = ((x / 2 : Nat) : Int) by omega]
  exact h1
theorem byte_xor (x : Nat) (s : ByteArray) (i : Nat) (h : x < 4294967296) (hi : i < s.size) : Go.bits .xor .u32 (x : Int) (bt s i % 4294967296) = ((x ^^^ (s.data.toList[i]'(by simpa using hi)).toNat : Nat) : Int) := by
  rw [bt_list s i hi]
  have hb := (s.data.toList[i]'(by simpa using hi)).toNat_lt
  rw [show (((s.data.toList[i]'(by simpa using hi)).toNat : Int) % 4294967296) = ((s.data.toList[i]'(by simpa using hi)).toNat : Int) by omega]
  exact xor_u32 x _ h (by omega)
theorem impl_sum_l1 (s : ByteArray) (i : Nat) (n : Int) (r : Int) : ∀ (d c x : Nat), 8 - c = d → x < 4294967296 →
    Ev (fun k => impl_SumMore.l0 k ((stepN d x : Nat) : Int) s n (wrap64 ((i : Int) + 1))) r → Ev (fun k => impl_SumMore.l1 k (x : Int) s n (i : Int) (c : Int)) r := by
  intro d
  induction d with
  | zero =>
    intro c x hd hx h
    exact Ev.step (fun k => by simp only [impl_SumMore.l1]; rw [if_neg (by omega)]; rfl) h
  | succ d ih =>
    intro c x hd hx h
    have ea : Go.bits .and .u32 (x : Int) 1 = ((x % 2 : Nat) : Int) := by
      have h1 := and_u32 x 1 hx (by omega)
      rw [show x &&& 1 = x % 2 from mask x 1] at h1
      exact h1
    by_cases ho : x % 2 = 1
    · have e : step1 x = (x / 2) ^^^ 3558460437 := by unfold step1; rw [if_pos ho]
      have h' := ih (c + 1) (step1 x) (by omega) (step1_lt x hx) h
      rw [e] at h'
      exact Ev.step (fun k => by
        simp only [impl_SumMore.l1]
        rw [if_pos (by omega), ea, if_pos (by omega), odd_xor x hx, w64 (by omega) (by omega)]; rfl) h'
    · have e : step1 x = x / 2 := by unfold step1; rw [if_neg ho]
      have h' := ih (c + 1) (step1 x) (by omega) (step1_lt x hx) h
      rw [e] at h'
      exact Ev.step (fun k => by
        simp only [impl_SumMore.l1]
        rw [if_pos (by omega), ea, if_neg (by omega), show ((x : Int) / 2) = ((x / 2 : Nat) : Int) by omega, w64 (by omega) (by omega)]; rfl) h'
theorem impl_sum_l0 (s : ByteArray) (hs : s.size ≤ 140737488351232) : ∀ (d i x : Nat), s.size - i = d → x < 4294967296 →
    Ev (fun k => impl_SumMore.l0 k (x : Int) s (s.size : Int) (i : Int)) ((sumL x (s.data.toList.drop i) : Nat) : Int) := by
  intro d
  induction d with
  | zero =>
    intro i x hd hx
    rw [List.drop_eq_nil_of_le (by simpa using (show s.size ≤ i by omega))]
    exact Ev.step (f := fun _ => some (x : Int)) (fun k => by simp only [impl_SumMore.l0]; rw [if_neg (by omega)]) (Ev.now _)
  | succ d ih =>
    intro i x hd hx
    have hi : i < s.size := by omega
    rw [drop_list s i hi]
    refine Ev.step (f := fun k => impl_SumMore.l1 k ((x ^^^ (s.data.toList[i]'(by simpa using hi)).toNat : Nat) : Int) s (s.size : Int) (i : Int) ((0 : Nat) : Int)) (fun k => by simp only [impl_SumMore.l0]; rw [if_pos (by omega), if_pos (by omega), if_pos (by omega), byte_xor x s i hx hi]; rfl) (impl_sum_l1 s i _ _ 8 0 _ rfl (byte_lt x _ hx) ?_)
    rw [w64 (by omega) (by omega)]
    exact ih (i + 1) _ (by omega) (stepN_lt 8 _ (byte_lt x _ hx))
theorem impl_sum (s : ByteArray) (hs : s.size ≤ 140737488351232) (x : Nat) (hx : x < 4294967296) : Ev (fun k => impl_SumMore.f k (x : Int) s) ((sumL x s.data.toList : Nat) : Int) := by
  unfold impl_SumMore.f; exact impl_sum_l0 s hs s.size 0 x (by omega) hx
theorem impl_sumOf (s : ByteArray) (hs : s.size ≤ 140737488351232) : Ev (fun k => impl_SumOf.f k s) ((sumL 4294967295 s.data.toList : Nat) : Int) := by
  unfold impl_SumOf.f; exact Ev.bind (impl_sum s hs 4294967295 (by omega)) (Ev.now _)
/-- A sum's four bytes, the highest first. -/
def fourT (x : Nat) : ByteArray := strOfNums [(x : Int) / 16777216 % 256, (x : Int) / 65536 % 256, (x : Int) / 256 % 256, (x : Int) % 256]
def sumT (s : ByteArray) : Nat := sumL 4294967295 s.data.toList
theorem fourT_size (x : Nat) : (fourT x).size = 4 := by unfold fourT; rw [str_size]; rfl
/-- What Sealed tells. -/
def sealT (s : ByteArray) : ByteArray × Bool := if s.size ≤ 12000 then (s ++ fourT (sumT s), true) else (⟨#[]⟩, false)
theorem impl_sealed (s : ByteArray) (hs : s.size ≤ 140737488351232) : Ev (fun k => impl_Sealed.f k s) (sealT s) := by
  unfold impl_Sealed.f sealT
  by_cases h : s.size ≤ 12000
  · simp only [if_neg (show ¬ (s.size : Int) > 12000 by omega), if_pos h]
    refine Ev.bind (impl_sumOf s hs) ?_
    show Ev (fun k => (some (fourT (sumT s))).bind _) _
    simp only [Option.bind_some]
    have := fourT_size (sumT s)
    simp only [if_pos (show s.size + (fourT (sumT s)).size ≤ 9223372036854775807 by omega)]
    exact Ev.now _
  · simp only [if_pos (show (s.size : Int) > 12000 by omega), if_neg h]
    exact Ev.now _
theorem impl_in (a b c : Int) : impl_within.f a b c = some (decide (b ≤ a ∧ a ≤ c)) := by
  unfold impl_within.f
  by_cases h : a ≥ b
  · rw [if_pos h]; simp; omega
  · rw [if_neg h]; simp; omega
/-- What Unsealed tells. -/
def unsealT (s : ByteArray) : ByteArray × Bool :=
  if 4 ≤ s.size ∧ s.size ≤ 12004 then (if (s.extract (s.size - 4) s.size).toList = (fourT (sumT (s.extract 0 (s.size - 4)))).toList then (s.extract 0 (s.size - 4), true) else (⟨#[]⟩, false)) else (⟨#[]⟩, false)
theorem impl_unsealed (s : ByteArray) (hs : s.size ≤ 140737488351232) : Ev (fun k => impl_Unsealed.f k s) (unsealT s) := by
  unfold impl_Unsealed.f unsealT
  rw [w64 (x := (s.size : Int) - 4) (by omega) (by omega), impl_in]
  simp only [Option.bind_some]
  by_cases h : 4 ≤ s.size ∧ s.size ≤ 12004
  · have e : ((s.size : Int) - 4).toNat = s.size - 4 := by omega
    simp only [show decide ((0 : Int) ≤ (s.size : Int) - 4 ∧ (s.size : Int) - 4 ≤ 12000) = true from decide_eq_true (by omega), if_true, if_pos (show (0 : Int) ≤ (s.size : Int) - 4 by omega), if_pos (show (s.size : Int) - 4 ≤ (s.size : Int) by omega), if_pos h, e]
    refine Ev.bind (impl_sumOf (s.extract 0 (s.size - 4)) (by simp; omega)) ?_
    show Ev (fun k => (some (fourT (sumT (s.extract 0 (s.size - 4))))).bind _) _
    simp only [Option.bind_some]
    by_cases h2 : (s.extract (s.size - 4) s.size).toList = (fourT (sumT (s.extract 0 (s.size - 4)))).toList
    · simp only [if_pos h2]; exact Ev.now _
    · simp only [if_neg h2]; exact Ev.now _
  · simp only [if_neg h, show decide ((0 : Int) ≤ (s.size : Int) - 4 ∧ (s.size : Int) - 4 ≤ 12000) = false from decide_eq_false (by omega)]
    exact Ev.now _
theorem step1_inj {x y : Nat} (hx : x < 4294967296) (hy : y < 4294967296) (h : step1 x = step1 y) : x = y := by
  have top : ∀ z : Nat, z < 4294967296 → ((z / 2) ^^^ 3558460437).testBit 31 = true := by
    intro z hz
    rw [Nat.testBit_xor, Nat.testBit_lt_two_pow (show z / 2 < 2 ^ 31 by omega)]
    decide
  have low : ∀ z : Nat, z < 4294967296 → (z / 2).testBit 31 = false := fun z hz => Nat.testBit_lt_two_pow (show z / 2 < 2 ^ 31 by omega)
  unfold step1 at h
  by_cases h1 : x % 2 = 1
  · by_cases h2 : y % 2 = 1
    · rw [if_pos h1, if_pos h2] at h
      have := congrArg (· ^^^ 3558460437) h
      simp only [Nat.xor_assoc, Nat.xor_self, Nat.xor_zero] at this
      omega
    · rw [if_pos h1, if_neg h2] at h
      have a := top x hx
      rw [h, low y hy] at a
      exact absurd a (by decide)
  · by_cases h2 : y % 2 = 1
    · rw [if_neg h1, if_pos h2] at h
      have a := top y hy
      rw [← h, low x hx] at a
      exact absurd a (by decide)
    · rw [if_neg h1, if_neg h2] at h
      omega
theorem stepN_inj (n : Nat) : ∀ {x y : Nat}, x < 4294967296 → y < 4294967296 → stepN n x = stepN n y → x = y := by
  induction n with
  | zero => exact fun _ _ h => h
  | succ n ih => exact fun hx hy h => step1_inj hx hy (ih (step1_lt _ hx) (step1_lt _ hy) h)
theorem xor_inj {a b c : Nat} (h : a ^^^ c = b ^^^ c) : a = b := by
  have := congrArg (· ^^^ c) h
  simpa only [Nat.xor_assoc, Nat.xor_self, Nat.xor_zero] using this
theorem sumL_inj (l : List UInt8) : ∀ {x y : Nat}, x < 4294967296 → y < 4294967296 → sumL x l = sumL y l → x = y := by
  induction l with
  | nil => exact fun _ _ h => h
  | cons b l ih => exact fun hx hy h => xor_inj (stepN_inj 8 (byte_lt _ b hx) (byte_lt _ b hy) (ih (stepN_lt 8 _ (byte_lt _ b hx)) (stepN_lt 8 _ (byte_lt _ b hy)) h))
/-- One other byte: another sum. -/
theorem sumL_set (l : List UInt8) : ∀ (i : Nat) (c : UInt8) {x : Nat}, x < 4294967296 → (hi : i < l.length) → c ≠ l[i] → sumL x (l.set i c) ≠ sumL x l := by
  induction l with
  | nil => exact fun i c x _ hi => absurd hi (Nat.not_lt_zero _)
  | cons b l ih =>
    intro i c x hx hi hc h
    cases i with
    | zero =>
      have h1 := sumL_inj l (stepN_lt 8 _ (byte_lt _ c hx)) (stepN_lt 8 _ (byte_lt _ b hx)) h
      have h2 := stepN_inj 8 (byte_lt _ c hx) (byte_lt _ b hx) h1
      rw [Nat.xor_comm x, Nat.xor_comm x] at h2
      exact hc (UInt8.toNat_inj.1 (xor_inj h2))
    | succ i => exact ih i c (stepN_lt 8 _ (byte_lt _ b hx)) (Nat.lt_of_succ_lt_succ hi) hc h
theorem sumL_append (l m : List UInt8) : ∀ x, sumL x (l ++ m) = sumL (sumL x l) m := by
  induction l with
  | nil => exact fun _ => rfl
  | cons b l ih => exact fun x => ih _
theorem four_list (x : Nat) : (fourT x).data.toList.map (fun b => b.toNat) = [x / 16777216 % 256, x / 65536 % 256, x / 256 % 256, x % 256] := by
  have h : ∀ z : Nat, (UInt8.ofNat ((z : Int) % 256).toNat).toNat = z % 256 := by
    intro z
    rw [show ((z : Int) % 256).toNat = z % 256 by omega, UInt8.toNat_ofNat']
    omega
  unfold fourT strOfNums
  simp only [List.map_cons, List.map_nil]
  rw [show (x : Int) / 16777216 = ((x / 16777216 : Nat) : Int) by omega, show (x : Int) / 65536 = ((x / 65536 : Nat) : Int) by omega, show (x : Int) / 256 = ((x / 256 : Nat) : Int) by omega, h, h, h, h]
theorem four_inj {x y : Nat} (hx : x < 4294967296) (hy : y < 4294967296) (h : (fourT x).data.toList = (fourT y).data.toList) : x = y := by
  have h1 := four_list x
  rw [h, four_list y] at h1
  simp only [List.cons.injEq, and_true] at h1
  omega
theorem cut_list (u : ByteArray) (a b : Nat) : (u.extract a b).data.toList = (u.data.toList.drop a).take (b - a) := by
  rw [ByteArray.data_extract, Array.toList_extract, List.extract_eq_take_drop]
/-- A sealed text with one other byte is not sealed. -/
theorem turned_not {s u : ByteArray} (hs : s.size ≤ 12000) {i : Nat} {c : UInt8} (hi : i < (s ++ fourT (sumT s)).data.toList.length) (hu : u.data.toList = (s ++ fourT (sumT s)).data.toList.set i c) (hc : c ≠ (s ++ fourT (sumT s)).data.toList[i]) : (unsealT u).2 = false := by
  have hlen : (s ++ fourT (sumT s)).data.toList = s.data.toList ++ (fourT (sumT s)).data.toList := by simp
  have h4 : (fourT (sumT s)).data.toList.length = 4 := fourT_size (sumT s)
  have hus : u.size = s.size + 4 := by
    have h1 : u.data.toList.length = u.size := rfl
    have h2 : s.data.toList.length = s.size := rfl
    rw [← h1, hu, List.length_set, hlen, List.length_append, h4, h2]
  have hsl : s.data.toList.length = s.size := rfl
  generalize hL : (s ++ fourT (sumT s)).data.toList = L at *
  unfold unsealT
  rw [if_pos (by omega)]
  have hsum : ∀ t : ByteArray, sumT t < 4294967296 := fun t => sumL_lt _ _ (by decide)
  split
  · rename_i h
    exfalso
    rw [ByteArray.toList_eq, ByteArray.toList_eq, cut_list, show u.size - 4 = s.size by omega, show u.size - s.size = 4 by omega, hu] at h
    have hcut : (u.extract 0 s.size).data.toList = (L.set i c).take s.size := by rw [cut_list, hu, List.drop_zero, Nat.sub_zero]
    by_cases hin : i < s.size
    · have e1 : (L.set i c).drop s.size = (fourT (sumT s)).data.toList := by rw [List.drop_set_of_lt hin, hlen, List.drop_left' hsl]
      have e2 : (L.set i c).take s.size = s.data.toList.set i c := by rw [List.take_set, hlen, List.take_left' hsl]
      rw [e1, List.take_of_length_le (by omega)] at h
      have e3 := four_inj (hsum s) (hsum _) h
      unfold sumT at e3
      rw [hcut, e2] at e3
      refine sumL_set s.data.toList i c (by decide) (by omega) ?_ e3.symm
      intro hcc
      apply hc
      rw [hcc]
      simp only [hlen]
      rw [List.getElem_append_left]
    · have e2 : (L.set i c).take s.size = s.data.toList := by rw [List.take_set_of_le (by omega), hlen, List.take_left' hsl]
      have e3 : sumT (u.extract 0 s.size) = sumT s := by unfold sumT; rw [hcut, e2]
      rw [e3, List.drop_set, if_neg hin, hlen, List.drop_left' hsl, List.take_of_length_le (by rw [List.length_set]; omega)] at h
      apply hc
      have h5 : i - s.size < (fourT (sumT s)).data.toList.length := by rw [hlen, List.length_append] at hi; omega
      have h6 : ((fourT (sumT s)).data.toList.set (i - s.size) c)[i - s.size]'(by rw [List.length_set]; exact h5) = c := List.getElem_set_self _
      rw [← h6]
      simp only [h, hlen]
      rw [List.getElem_append_right (by omega)]
      rfl
  · rfl
/-- Whole numbers as bytes, and back. -/
def byteOf (n : Int) : UInt8 := UInt8.ofNat n.toNat
def castL (l : List UInt8) : List Int := l.map fun b => (b.toNat : Int)
theorem str_data (l : List Int) : (strOfNums l).data.toList = l.map byteOf := by unfold strOfNums byteOf; simp
theorem byteOf_cast (l : List UInt8) : (castL l).map byteOf = l := by
  unfold castL
  rw [List.map_map]
  conv => rhs; rw [← List.map_id l]
  apply List.map_congr_left
  intro b _
  simp [byteOf]
theorem cast_byteOf : ∀ (l : List Int), (∀ x ∈ l, 0 ≤ x ∧ x < 256) → castL (l.map byteOf) = l := by
  intro l
  induction l with
  | nil => intro _; rfl
  | cons x l ih =>
    intro h
    have hx := h x (by simp)
    have := ih (fun y hy => h y (by simp [hy]))
    unfold castL at this ⊢
    rw [List.map_cons, List.map_cons, this]
    congr 1
    simp [byteOf]; omega
theorem str_cast (l : List UInt8) : (strOfNums (castL l)).data.toList = l := by rw [str_data, byteOf_cast]
theorem byteArray_ext {a b : ByteArray} (h : a.data.toList = b.data.toList) : a = b := by
  cases a; cases b; congr; exact Array.toList_inj.mp h
theorem str_castA (s : ByteArray) : strOfNums (castL s.data.toList) = s := byteArray_ext (str_cast _)
theorem append_data (a b : ByteArray) : (a ++ b).data.toList = a.data.toList ++ b.data.toList := by simp
theorem unseal_seal {s : ByteArray} (hs : s.size ≤ 12000) : unsealT (s ++ fourT (sumT s)) = (s, true) := by
  have h4 := fourT_size (sumT s)
  have hus : (s ++ fourT (sumT s)).size = s.size + 4 := by rw [ByteArray.size_append]; omega
  have hsl : s.data.toList.length = s.size := rfl
  have h4l : (fourT (sumT s)).data.toList.length = 4 := h4
  have hlen : (s ++ fourT (sumT s)).data.toList = s.data.toList ++ (fourT (sumT s)).data.toList := by simp
  have e1 : (s ++ fourT (sumT s)).extract 0 ((s ++ fourT (sumT s)).size - 4) = s := by
    apply byteArray_ext
    rw [cut_list, hlen, hus, List.drop_zero, Nat.sub_zero, Nat.add_sub_cancel, List.take_left' hsl]
  have e2 : ((s ++ fourT (sumT s)).extract ((s ++ fourT (sumT s)).size - 4) (s ++ fourT (sumT s)).size).data.toList = (fourT (sumT s)).data.toList := by
    rw [cut_list, hlen, hus, Nat.add_sub_cancel, List.drop_left' hsl, List.take_of_length_le (by omega)]
  unfold unsealT
  rw [if_pos (by omega), e1, ByteArray.toList_eq, ByteArray.toList_eq, e2, if_pos rfl]
/-- The eight lowest bits. -/
theorem and_low255 (x : Int) : 0 ≤ Go.bits .and .i64 x 255 ∧ Go.bits .and .i64 x 255 ≤ 255 := by
  have e : Go.bits .and .i64 x 255 = wrap64 (((BitVec.ofInt 64 x).toNat &&& 255 : Nat) : Int) := by
    simp only [Go.bits, wi64]
    show wrap64 (((BitVec.ofInt 64 x &&& BitVec.ofInt 64 255).toNat : Int)) = _
    rw [BitVec.toNat_and]
    rfl
  have h : (BitVec.ofInt 64 x).toNat &&& 255 ≤ 255 := Nat.and_le_right
  rw [e, w64 (by omega) (by omega)]
  omega
/-- One byte drawn. -/
theorem spec_byte (l : List Int) (i h : Int) (hl : l.length ≤ 140737488351232) (hi : 0 ≤ i) : ∃ v i' h', spec_l01Byte.f l i h = some (v, i', h') ∧ (0 ≤ v ∧ v ≤ 255) ∧ 0 ≤ i' := by
  unfold spec_l01Byte.f
  by_cases h1 : i < (l.length : Int)
  · rw [if_pos h1, if_pos hi]
    refine ⟨_, _, _, rfl, and_low255 _, ?_⟩
    rw [w64 (by omega) (by omega)]
    omega
  · rw [if_neg h1]
    exact ⟨_, _, _, rfl, and_low255 _, hi⟩
/-- A number below a bound drawn. -/
theorem spec_below (l : List Int) (i h n : Int) (hl : l.length ≤ 140737488351232) (hi : 0 ≤ i) (hn : 0 < n) : ∃ v i' h', spec_l01Below.f l i h n = some (v, i', h') ∧ (0 ≤ v ∧ v < n) ∧ 0 ≤ i' := by
  unfold spec_l01Below.f
  rw [if_neg (by omega)]
  by_cases h1 : n ≤ 256
  · rw [if_pos h1]
    obtain ⟨v, i', h', e, hv, hi'⟩ := spec_byte l i h hl hi
    rw [e]
    simp only [Option.bind_some]
    rw [if_neg (by omega), tmodN hv.1]
    exact ⟨_, _, _, rfl, ⟨Int.emod_nonneg _ (by omega), Int.emod_lt_of_pos _ hn⟩, hi'⟩
  · rw [if_neg h1]
    obtain ⟨v1, i1, h1, e1, r1, p1⟩ := spec_byte l i h hl hi
    obtain ⟨v2, i2, h2, e2, r2, p2⟩ := spec_byte l i1 h1 hl p1
    obtain ⟨v3, i3, h3, e3, r3, p3⟩ := spec_byte l i2 h2 hl p2
    obtain ⟨v4, i4, h4, e4, r4, p4⟩ := spec_byte l i3 h3 hl p3
    rw [e1]
    simp only [Option.bind_some]
    rw [e2]
    simp only [Option.bind_some]
    rw [e3]
    simp only [Option.bind_some]
    rw [e4]
    simp only [Option.bind_some]
    rw [if_neg (by omega), w64 (x := v1 * 16777216) (by omega) (by omega), w64 (x := v2 * 65536) (by omega) (by omega), w64 (x := v3 * 256) (by omega) (by omega), w64 (x := v1 * 16777216 + v2 * 65536) (by omega) (by omega), w64 (x := v1 * 16777216 + v2 * 65536 + v3 * 256) (by omega) (by omega), w64 (by omega) (by omega), tmodN (by omega)]
    exact ⟨_, _, _, rfl, ⟨Int.emod_nonneg _ (by omega), Int.emod_lt_of_pos _ hn⟩, p4⟩
theorem spec_new_l0 (l : List Int) (_hl : l.length ≤ 140737488351232) : ∀ (d i : Nat) (x : Int), 4000 - i = d → i ≤ 4000 → ∃ h, Ev (fun k => spec_l01New.l0 k l x (i : Int)) (l, 0, h) := by
  have hr : ∀ (k i : Nat) (x : Int), spec_l01New.l0 (k + 1) l x (i : Int) = if (i : Int) < (l.length : Int) then (if (i : Int) < 4000 then (if 0 ≤ (i : Int) then (spec_l01New.l0 k l (Go.bits .and .i64 (wrap64 ((wrap64 ((wrap64 (x * 131)) + (wrap64 (rd l i)))) + 7)) 1073741823) (wrap64 ((i : Int) + 1))) else (none)) else (some (l, 0, x))) else (some (l, 0, x)) := fun _ _ _ => rfl
  intro d
  induction d with
  | zero =>
    intro i x hd hi
    refine ⟨x, Ev.step (f := fun _ => some (l, 0, x)) (fun k => ?_) (Ev.now _)⟩
    rw [hr]
    split
    · rw [if_neg (by omega)]
    · rfl
  | succ d ih =>
    intro i x hd hi
    by_cases h1 : i < l.length
    · obtain ⟨h, e⟩ := ih (i + 1) (Go.bits .and .i64 (wrap64 ((wrap64 ((wrap64 (x * 131)) + (wrap64 (rd l i)))) + 7)) 1073741823) (by omega) (by omega)
      exact ⟨h, Ev.step (fun k => by rw [hr, if_pos (by omega), if_pos (by omega), if_pos (by omega), w64s (by omega)]) e⟩
    · exact ⟨x, Ev.step (f := fun _ => some (l, 0, x)) (fun k => by rw [hr, if_neg (by omega)]) (Ev.now _)⟩
/-- A source of draws made. -/
theorem spec_new (l : List Int) (hl : l.length ≤ 140737488351232) : ∃ h, Ev (fun k => spec_l01New.f k l) (l, 0, h) := spec_new_l0 l hl 4000 0 _ (by omega) (by omega)
theorem spec_drawText_l0 (l : List Int) (hl : l.length ≤ 140737488351232) (n : Nat) (hn : n ≤ 5000) : ∀ (d j : Nat) (T : List Int) (i h : Int), n - j = d → j ≤ n → T.length = j → 0 ≤ i →
    ∃ s i' h', Ev (fun k => spec_l01Text.l0 k (n : Int) T (j : Int) l i h) (s, i', h') ∧ s.size = n ∧ 0 ≤ i' := by
  have hr : ∀ (k j : Nat) (T : List Int) (i h : Int), spec_l01Text.l0 (k + 1) (n : Int) T (j : Int) l i h = if (j : Int) < (n : Int) then ((spec_l01Byte.f l i h).bind fun bt178 => (if T.length < 140737488355328 then (spec_l01Text.l0 k (n : Int) (T ++ [(bt178.1) % 256]) (wrap64 ((j : Int) + 1)) l bt178.2.1 bt178.2.2) else (none))) else (some (strOfNums T, i, h)) := fun _ _ _ _ _ => rfl
  intro d
  induction d with
  | zero =>
    intro j T i h hd hj hT hi
    refine ⟨strOfNums T, i, h, Ev.step (f := fun _ => some (strOfNums T, i, h)) (fun k => ?_) (Ev.now _), by rw [str_size]; omega, hi⟩
    rw [hr, if_neg (by omega)]
  | succ d ih =>
    intro j T i h hd hj hT hi
    obtain ⟨v, i1, h1, e1, _, p1⟩ := spec_byte l i h hl hi
    obtain ⟨s, i', h', e, r⟩ := ih (j + 1) (T ++ [v % 256]) i1 h1 (by omega) (by omega) (by simp; omega) p1
    refine ⟨s, i', h', Ev.step (fun k => ?_) e, r⟩
    rw [hr, if_pos (by omega), e1]
    simp only [Option.bind_some]
    rw [if_pos (by omega), w64s (by omega)]
/-- A text of a length drawn. -/
theorem spec_drawText (l : List Int) (i h : Int) (n : Nat) (hl : l.length ≤ 140737488351232) (hi : 0 ≤ i) (hn : n ≤ 5000) : ∃ s i' h', Ev (fun k => spec_l01Text.f k l i h (n : Int)) (s, i', h') ∧ s.size = n ∧ 0 ≤ i' := by
  obtain ⟨s, i', h', e, r⟩ := spec_drawText_l0 l hl n hn n 0 [] i h (by omega) (by omega) rfl hi
  refine ⟨s, i', h', ?_, r⟩
  unfold spec_l01Text.f
  simp only [if_neg (show ¬ (n : Int) > 5000 by omega)]
  exact Ev.step (f := fun k => spec_l01Text.l0 k (n : Int) [] 0 l i h) (fun k => rfl) e
theorem spec_places_l0 (l : List Int) (hl : l.length ≤ 140737488351232) : ∀ (d j : Nat) (T : List Int) (i h : Int), 12 - j = d → j ≤ 12 → T.length = j → (∀ x ∈ T, 0 ≤ x ∧ x < 10000) → 0 ≤ i →
    ∃ L : List Int, Ev (fun k => spec_DrawPlaces.l0 k T (j : Int) l i h) L ∧ L.length = 12 ∧ (∀ x ∈ L, 0 ≤ x ∧ x < 10000) := by
  have hr : ∀ (k j : Nat) (T : List Int) (i h : Int), spec_DrawPlaces.l0 (k + 1) T (j : Int) l i h = if (j : Int) < 12 then ((spec_l01Below.f l i h 10000).bind fun bt277 => (if T.length < 17592186044416 then (spec_DrawPlaces.l0 k (T ++ [bt277.1]) (wrap64 ((j : Int) + 1)) l bt277.2.1 bt277.2.2) else (none))) else (some T) := fun _ _ _ _ _ => rfl
  intro d
  induction d with
  | zero =>
    intro j T i h hd hj hT h9 hi
    exact ⟨T, Ev.step (f := fun _ => some T) (fun k => by rw [hr, if_neg (by omega)]) (Ev.now _), by omega, h9⟩
  | succ d ih =>
    intro j T i h hd hj hT h9 hi
    obtain ⟨v, i1, h1, e1, r1, p1⟩ := spec_below l i h 10000 hl hi (by omega)
    obtain ⟨L, e, r⟩ := ih (j + 1) (T ++ [v]) i1 h1 (by omega) (by omega) (by simp; omega) (by
      intro c hc
      rcases List.mem_append.1 hc with h2 | h2
      · exact h9 c h2
      · rw [List.mem_singleton.1 h2]; exact r1) p1
    refine ⟨L, Ev.step (fun k => ?_) e, r⟩
    rw [hr, if_pos (by omega), e1]
    simp only [Option.bind_some]
    rw [if_pos (by omega), w64s (by omega)]
/-- Twelve places drawn. -/
theorem spec_places (l : List Int) (hl : l.length ≤ 140737488351232) : ∃ L : List Int, Ev (fun k => spec_DrawPlaces.f k l) L ∧ L.length = 12 ∧ (∀ x ∈ L, 0 ≤ x ∧ x < 10000) := by
  obtain ⟨h, e⟩ := spec_new l hl
  obtain ⟨v, i1, h1, e1, _, p1⟩ := spec_byte l 0 h hl (by omega)
  obtain ⟨L, e2, r⟩ := spec_places_l0 l hl 12 0 [] i1 h1 (by omega) (by omega) rfl (by simp) p1
  refine ⟨L, ?_, r⟩
  unfold spec_DrawPlaces.f
  refine Ev.bind e ?_
  simp only [e1, Option.bind_some]
  exact e2
theorem ev_const {α : Type} {x : Option α} {r : α} (h : x = some r) : Ev (fun _ => x) r := by rw [h]; exact Ev.now r
theorem ev_if {α : Type} {c : Prop} [Decidable c] {f g : Nat → Option α} {r : α} (h : c) (k : Ev f r) : Ev (fun n => if c then f n else g n) r := Ev.congr (fun _ => if_pos h) k
theorem ev_else {α : Type} {c : Prop} [Decidable c] {f g : Nat → Option α} {r : α} (h : ¬ c) (k : Ev g r) : Ev (fun n => if c then f n else g n) r := Ev.congr (fun _ => if_neg h) k
theorem spec_drawSum (l : List Int) (hl : l.length ≤ 140737488351232) : ∃ s, Ev (fun k => spec_DrawSumOf.f k l) s ∧ s.size ≤ 40 := by
  obtain ⟨h, e⟩ := spec_new l hl
  obtain ⟨v, i1, h1, e1, r1, p1⟩ := spec_below l 0 h 40 hl (by omega) (by omega)
  obtain ⟨s, i3, h3, e3, r3, p3⟩ := spec_drawText l i1 h1 v.toNat hl p1 (by omega)
  rw [show ((v.toNat : Nat) : Int) = v by omega] at e3
  refine ⟨s, ?_, by omega⟩
  unfold spec_DrawSumOf.f
  refine Ev.bind e ?_
  simp only [e1, Option.bind_some]
  exact Ev.bind e3 (Ev.now _)
theorem turn_list (t : ByteArray) (i : Nat) (v : Int) : (Go.Proofs.Ytegcackfdgonaaa.G.turnT t i v).data.toList = t.data.toList.set i (UInt8.ofNat v.toNat) := by
  show (strOfNums ((castL t.data.toList).set i v)).data.toList = _
  rw [str_data, List.map_set, byteOf_cast]
  rfl
theorem xor_u8 (a b : Nat) (ha : a < 256) (hb : b < 256) : Go.bits .xor .u8 (a : Int) (b : Int) = ((a ^^^ b : Nat) : Int) := by
  have hlt : a ^^^ b < 2 ^ 8 := Nat.xor_lt_two_pow (n := 8) (by omega) (by omega)
  simp only [Go.bits, wu8]
  show (((BitVec.ofInt 8 (a : Int) ^^^ BitVec.ofInt 8 (b : Int)).toNat : Int)) % _ = _
  rw [BitVec.ofInt_natCast, BitVec.ofInt_natCast, BitVec.toNat_xor, BitVec.toNat_ofNat, BitVec.toNat_ofNat, Nat.mod_eq_of_lt ha, Nat.mod_eq_of_lt hb]
  omega
theorem rd_mem (p : List Int) (i : Nat) (h : i < p.length) : rd p (i : Int) ∈ p := by
  unfold rd
  rw [Int.toNat_natCast, List.getD_eq_getElem?_getD, List.getElem?_eq_getElem h]
  exact List.getElem_mem h
theorem turned_bad {s : ByteArray} (hs : s.size ≤ 12000) (i : Nat) (d : Int) (hi : i < (s ++ fourT (sumT s)).size) (h0 : 0 < d) (h1 : d < 256) :
    (unsealT (Go.Proofs.Ytegcackfdgonaaa.G.turnT (s ++ fourT (sumT s)) i (Go.bits .xor .u8 ((((s ++ fourT (sumT s)).data.toList.getD i 0).toNat : Nat) : Int) d))).2 = false := by
  have hi' : i < (s ++ fourT (sumT s)).data.toList.length := hi
  refine turned_not hs hi' (turn_list _ _ _) ?_
  have hg : (s ++ fourT (sumT s)).data.toList.getD i 0 = (s ++ fourT (sumT s)).data.toList[i] := by
    rw [List.getD_eq_getElem?_getD, List.getElem?_eq_getElem hi']; rfl
  rw [hg]
  generalize (s ++ fourT (sumT s)).data.toList[i] = b
  have hb := b.toNat_lt
  obtain ⟨n, rfl⟩ := Int.eq_ofNat_of_zero_le (Int.le_of_lt h0)
  rw [xor_u8 b.toNat n (by omega) (by omega), Int.toNat_natCast]
  intro h
  have hx : b.toNat ^^^ n < 2 ^ 8 := Nat.xor_lt_two_pow (n := 8) (by omega) (by omega)
  have h2 := congrArg UInt8.toNat h
  rw [UInt8.toNat_ofNat', Nat.mod_eq_of_lt (by omega)] at h2
  have h3 := congrArg (b.toNat ^^^ ·) h2
  simp only [← Nat.xor_assoc, Nat.xor_self, Nat.zero_xor] at h3
  omega
theorem FnTurned : laws_FnTurned.Pure := by
  intro l _ hl _
  rw [Nat.mul_one] at hl
  refine Ev.rounds ?_
  unfold laws_FnTurned.f laws_big.f
  simp only [Option.bind_some]
  by_cases hb : (l.length : Int) > 1048576
  · rw [decide_eq_true hb]
    simp only [if_true]
    exact Ev.now true
  · rw [decide_eq_false hb]
    simp only [Bool.false_eq_true, if_false]
    obtain ⟨s, e1, hs⟩ := spec_drawSum l hl
    obtain ⟨p, e2, hp, hpr⟩ := spec_places l hl
    have h3 := impl_sealed s (by omega)
    have hsl : sealT s = (s ++ fourT (sumT s), true) := by unfold sealT; rw [if_pos (by omega)]
    rw [hsl] at h3
    have hts : (s ++ fourT (sumT s)).size = s.size + 4 := by rw [ByteArray.size_append, fourT_size]
    have h4 := impl_unsealed (s ++ fourT (sumT s)) (by omega)
    rw [unseal_seal (by omega)] at h4
    have hq0 : 0 ≤ rd p 0 ∧ rd p 0 < 10000 := hpr _ (rd_mem p 0 (by omega))
    have hq1 : 0 ≤ rd p 1 ∧ rd p 1 < 10000 := hpr _ (rd_mem p 1 (by omega))
    have hn : 0 < ((s ++ fourT (sumT s)).size : Int) := by omega
    have hd0 : 0 < 1 + Int.tmod (rd p 1) 255 ∧ 1 + Int.tmod (rd p 1) 255 < 256 := by rw [Int.tmod_eq_emod_of_nonneg hq1.1]; omega
    have hix : (Int.tmod (rd p 0) ((s ++ fourT (sumT s)).size : Int)).toNat < (s ++ fourT (sumT s)).size := by
      rw [Int.tmod_eq_emod_of_nonneg hq0.1]
      have h1 := Int.emod_nonneg (rd p 0) (Int.ne_of_gt hn)
      have h2 := Int.emod_lt_of_pos (rd p 0) hn
      omega
    have hnot := turned_bad (s := s) (by omega) _ _ hix hd0.1 hd0.2
    generalize hT : Go.Proofs.Ytegcackfdgonaaa.G.turnT (s ++ fourT (sumT s)) (Int.tmod (rd p 0) ((s ++ fourT (sumT s)).size : Int)).toNat (Go.bits .xor .u8 ((((s ++ fourT (sumT s)).data.toList.getD (Int.tmod (rd p 0) ((s ++ fourT (sumT s)).size : Int)).toNat 0).toNat : Nat) : Int) (1 + Int.tmod (rd p 1) 255)) = T at hnot
    have hTs : T.size ≤ 140737488351232 := by
      have h1 : T.data.toList.length = (s ++ fourT (sumT s)).data.toList.length := by rw [← hT, turn_list, List.length_set]
      have h2 : T.size = (s ++ fourT (sumT s)).size := h1
      omega
    have h5 := impl_unsealed T hTs
    have h6 := impl_sumOf s (by omega)
    have hx1 : (⟨#[120]⟩ : ByteArray).size = 1 := rfl
    have h7 := impl_sum (⟨#[120]⟩ : ByteArray) (by omega) (sumL 4294967295 s.data.toList) (sumL_lt _ _ (by decide))
    have h8 := impl_sumOf (s ++ (⟨#[120]⟩ : ByteArray)) (by rw [ByteArray.size_append]; omega)
    have h9 : sumL 4294967295 (s ++ (⟨#[120]⟩ : ByteArray)).data.toList = sumL (sumL 4294967295 s.data.toList) (⟨#[120]⟩ : ByteArray).data.toList := by
      rw [append_data, sumL_append]
    rw [h9] at h8
    have hw : wrap64 ((s.size : Int) + 4) = (s.size : Int) + 4 := w64 (by omega) (by omega)
    have hne : (((s ++ fourT (sumT s)).size : Int) != wrap64 ((s.size : Int) + 4)) = false := by
      rw [hw, hts]
      simp
    have hc : 1 < p.length ∧ 0 < (s ++ fourT (sumT s)).size ∧ (s ++ fourT (sumT s)).size ≤ 1000000 ∧ 0 ≤ rd p 0 ∧ rd p 0 < 1000000 ∧ 0 ≤ rd p 1 ∧ rd p 1 < 1000000 ∧ s.size ≤ 1000000 :=
      ⟨by rw [hp]; decide, by rw [hts]; exact Nat.succ_pos _, by rw [hts]; exact Nat.le_trans (Nat.add_le_add_right hs 4) (by decide), hq0.1, Int.lt_trans hq0.2 (by decide), hq1.1, Int.lt_trans hq1.2 (by decide), Nat.le_trans hs (by decide)⟩
    have ht : Ev (fun k => laws_FnTurned.tail k s (s ++ fourT (sumT s)) p) true := by
      unfold laws_FnTurned.tail
      refine ev_if hc ?_
      rw [hT]
      refine Ev.bind h5 (ev_else (by rw [hnot]; decide) (Ev.bind h6 (Ev.bind h7 (Ev.bind h8 ?_))))
      rw [beq_self_eq_true]
      exact Ev.now true
    have hj : Ev (fun k => laws_FnTurned.j0 k s (s ++ fourT (sumT s)) p false) true :=
      Ev.step (f := fun k => laws_FnTurned.tail k s (s ++ fourT (sumT s)) p) (fun _ => rfl) ht
    refine Ev.bind e1 (Ev.bind e2 (Ev.bind h3 (Ev.bind h4 (ev_if rfl (ev_if rfl (ev_if rfl ?_))))))
    rw [hne]
    exact hj
end Go.Proofs.Ytegcackfdgonaaa.Pure
