/- At every text of at most 2^20 bytes the program's Unsealed and the reference's tell the same. No condition but the statement's own. -/
import Derived.Test.YtcnajbnamgohnaaPFnExactUnsealedx2
import Derived.Test.YtcnajbnamgohnaaCB
namespace Go.Proofs.Ytcnajbnamgohnaa.Pure
open Go.RowKit Go.Proofs.Ytcnajbnamgohnaa.PFnExactUnsealed Go.Proofs.YtcnajbnamgohnaaW.PrintWords Go.Proofs.YtcnajbnamgohnaaW.PrintLast Go.Proofs.Ytcnajbnamgohnaa.CB
/-- One bit of the sum; so many bits; a byte; a text. -/
def step1 (x : Nat) : Nat := if x % 2 = 1 then (x / 2) ^^^ 3558460437 else x / 2
def stepN : Nat → Nat → Nat
  | 0, x => x
  | n + 1, x => stepN n (step1 x)
def sumL : Nat → List UInt8 → Nat
  | x, [] => x
  | x, b :: l => sumL (stepN 8 (x ^^^ b.toNat)) l
theorem step1_lt (x : Nat) (h : x < 4294967296) : step1 x < 4294967296 := by
  unfold step1
  split
  · exact Nat.xor_lt_two_pow (n := 32) (by omega) (by omega)
  · omega
theorem stepN_lt (n : Nat) : ∀ x, x < 4294967296 → stepN n x < 4294967296 := by
  induction n with
  | zero => exact fun x h => h
  | succ n ih => exact fun x h => ih _ (step1_lt x h)
theorem byte_lt (x : Nat) (b : UInt8) (h : x < 4294967296) : x ^^^ b.toNat < 4294967296 :=
  Nat.xor_lt_two_pow (n := 32) (by omega) (by have := b.toNat_lt; omega)
theorem sumL_lt (l : List UInt8) : ∀ x, x < 4294967296 → sumL x l < 4294967296 := by
  induction l with
  | nil => exact fun x h => h
  | cons b l ih => exact fun x h => ih _ (stepN_lt 8 _ (byte_lt x b h))
theorem odd_xor (x : Nat) (h : x < 4294967296) : Go.bits .xor .u32 ((x : Int) / 2) 3558460437 = (((x / 2) ^^^ 3558460437 : Nat) : Int) := by
  have h1 := xor_u32 (x / 2) 3558460437 (by omega) (by omega)
  rw [show ((x : Int) / 2) = ((x / 2 : Nat) : Int) by omega]
  exact h1
theorem byte_xor (x : Nat) (s : ByteArray) (i : Nat) (h : x < 4294967296) (hi : i < s.size) : Go.bits .xor .u32 (x : Int) (bt s i % 4294967296) = ((x ^^^ (s.data.toList[i]'(by simpa using hi)).toNat : Nat) : Int) := by
  rw [bt_list s i hi]
  have hb := (s.data.toList[i]'(by simpa using hi)).toNat_lt
  rw [show (((s.data.toList[i]'(by simpa using hi)).toNat : Int) % 4294967296) = ((s.data.toList[i]'(by simpa using hi)).toNat : Int) by omega]
  exact xor_u32 x _ h (by omega)
theorem spec_sum_l1 (s : ByteArray) (i : Nat) (r : Int) : ∀ (d c x : Nat), 8 - c = d → x < 4294967296 →
    Ev (fun k => spec_SumMore.l0 k ((stepN d x : Nat) : Int) s (wrap64 ((i : Int) + 1))) r → Ev (fun k => spec_SumMore.l1 k (x : Int) s (i : Int) (c : Int)) r := by
  intro d
  induction d with
  | zero =>
    intro c x hd hx h
    exact Ev.step (fun k => by simp only [spec_SumMore.l1]; rw [if_neg (by omega)]; rfl) h
  | succ d ih =>
    intro c x hd hx h
    by_cases ho : x % 2 = 1
    · have e : step1 x = (x / 2) ^^^ 3558460437 := by unfold step1; rw [if_pos ho]
      have h' := ih (c + 1) (step1 x) (by omega) (step1_lt x hx) h
      rw [e] at h'
      exact Ev.step (fun k => by
        simp only [spec_SumMore.l1]
        rw [if_pos (by omega), if_pos (by rw [tmodN (by omega)]; omega), tdivN (by omega), show ((x : Int) / 2) % 4294967296 = (x : Int) / 2 by omega, odd_xor x hx, w64 (by omega) (by omega)]; rfl) h'
    · have e : step1 x = x / 2 := by unfold step1; rw [if_neg ho]
      have h' := ih (c + 1) (step1 x) (by omega) (step1_lt x hx) h
      rw [e] at h'
      exact Ev.step (fun k => by
        simp only [spec_SumMore.l1]
        rw [if_pos (by omega), if_neg (by rw [tmodN (by omega)]; omega), tdivN (by omega), show ((x : Int) / 2) % 4294967296 = ((x / 2 : Nat) : Int) by omega, w64 (by omega) (by omega)]; rfl) h'
theorem spec_sum_l0 (s : ByteArray) (hs : s.size ≤ 140737488351232) : ∀ (d i x : Nat), s.size - i = d → x < 4294967296 →
    Ev (fun k => spec_SumMore.l0 k (x : Int) s (i : Int)) ((sumL x (s.data.toList.drop i) : Nat) : Int) := by
  intro d
  induction d with
  | zero =>
    intro i x hd hx
    rw [List.drop_eq_nil_of_le (by simpa using (show s.size ≤ i by omega))]
    exact Ev.step (f := fun _ => some (x : Int)) (fun k => by simp only [spec_SumMore.l0]; rw [if_neg (by omega)]) (Ev.now _)
  | succ d ih =>
    intro i x hd hx
    have hi : i < s.size := by omega
    rw [drop_list s i hi]
    refine Ev.step (f := fun k => spec_SumMore.l1 k ((x ^^^ (s.data.toList[i]'(by simpa using hi)).toNat : Nat) : Int) s (i : Int) ((0 : Nat) : Int)) (fun k => by simp only [spec_SumMore.l0]; rw [if_pos (by omega), if_pos (by omega), byte_xor x s i hx hi]; rfl) (spec_sum_l1 s i _ 8 0 _ rfl (byte_lt x _ hx) ?_)
    rw [w64 (by omega) (by omega)]
    exact ih (i + 1) _ (by omega) (stepN_lt 8 _ (byte_lt x _ hx))
theorem spec_sum (s : ByteArray) (hs : s.size ≤ 140737488351232) (x : Nat) (hx : x < 4294967296) : Ev (fun k => spec_SumMore.f k (x : Int) s) ((sumL x s.data.toList : Nat) : Int) := by
  unfold spec_SumMore.f; exact spec_sum_l0 s hs s.size 0 x (by omega) hx
theorem impl_sum_l1 (s : ByteArray) (i : Nat) (n : Int) (r : Int) : ∀ (d c x : Nat), 8 - c = d → x < 4294967296 →
    Ev (fun k => impl_SumMore.l0 k ((stepN d x : Nat) : Int) s n (wrap64 ((i : Int) + 1))) r → Ev (fun k => impl_SumMore.l1 k (x : Int) s n (i : Int) (c : Int)) r := by
  intro d
  induction d with
  | zero =>
    intro c x hd hx h
    exact Ev.step (fun k => by simp only [impl_SumMore.l1]; rw [if_neg (by omega)]; rfl) h
  | succ d ih =>
    intro c x hd hx h
    have ea : Go.bits .and .u32 (x : Int) 1 = ((x % 2 : Nat) : Int) := by
      have h1 := and_u32 x 1 hx (by omega)
      rw [show x &&& 1 = x % 2 from mask x 1] at h1
      exact h1
    by_cases ho : x % 2 = 1
    · have e : step1 x = (x / 2) ^^^ 3558460437 := by unfold step1; rw [if_pos ho]
      have h' := ih (c + 1) (step1 x) (by omega) (step1_lt x hx) h
      rw [e] at h'
      exact Ev.step (fun k => by
        simp only [impl_SumMore.l1]
        rw [if_pos (by omega), ea, if_pos (by omega), odd_xor x hx, w64 (by omega) (by omega)]; rfl) h'
    · have e : step1 x = x / 2 := by unfold step1; rw [if_neg ho]
      have h' := ih (c + 1) (step1 x) (by omega) (step1_lt x hx) h
      rw [e] at h'
      exact Ev.step (fun k => by
        simp only [impl_SumMore.l1]
        rw [if_pos (by omega), ea, if_neg (by omega), show ((x : Int) / 2) = ((x / 2 : Nat) : Int) by omega, w64 (by omega) (by omega)]; rfl) h'
theorem impl_sum_l0 (s : ByteArray) (hs : s.size ≤ 140737488351232) : ∀ (d i x : Nat), s.size - i = d → x < 4294967296 →
    Ev (fun k => impl_SumMore.l0 k (x : Int) s (s.size : Int) (i : Int)) ((sumL x (s.data.toList.drop i) : Nat) : Int) := by
  intro d
  induction d with
  | zero =>
    intro i x hd hx
    rw [List.drop_eq_nil_of_le (by simpa using (show s.size ≤ i by omega))]
    exact Ev.step (f := fun _ => some (x : Int)) (fun k => by simp only [impl_SumMore.l0]; rw [if_neg (by omega)]) (Ev.now _)
  | succ d ih =>
    intro i x hd hx
    have hi : i < s.size := by omega
    rw [drop_list s i hi]
    refine Ev.step (f := fun k => impl_SumMore.l1 k ((x ^^^ (s.data.toList[i]'(by simpa using hi)).toNat : Nat) : Int) s (s.size : Int) (i : Int) ((0 : Nat) : Int)) (fun k => by simp only [impl_SumMore.l0]; rw [if_pos (by omega), if_pos (by omega), if_pos (by omega), byte_xor x s i hx hi]; rfl) (impl_sum_l1 s i _ _ 8 0 _ rfl (byte_lt x _ hx) ?_)
    rw [w64 (by omega) (by omega)]
    exact ih (i + 1) _ (by omega) (stepN_lt 8 _ (byte_lt x _ hx))
theorem impl_sum (s : ByteArray) (hs : s.size ≤ 140737488351232) (x : Nat) (hx : x < 4294967296) : Ev (fun k => impl_SumMore.f k (x : Int) s) ((sumL x s.data.toList : Nat) : Int) := by
  unfold impl_SumMore.f; exact impl_sum_l0 s hs s.size 0 x (by omega) hx
theorem spec_sumOf (s : ByteArray) (hs : s.size ≤ 140737488351232) : Ev (fun k => spec_SumOf.f k s) ((sumL 4294967295 s.data.toList : Nat) : Int) := by
  unfold spec_SumOf.f; exact Ev.bind (spec_sum s hs 4294967295 (by omega)) (Ev.now _)
theorem impl_sumOf (s : ByteArray) (hs : s.size ≤ 140737488351232) : Ev (fun k => impl_SumOf.f k s) ((sumL 4294967295 s.data.toList : Nat) : Int) := by
  unfold impl_SumOf.f; exact Ev.bind (impl_sum s hs 4294967295 (by omega)) (Ev.now _)
/-- A sum's four bytes, the highest first. -/
def fourT (x : Nat) : ByteArray := strOfNums [(x : Int) / 16777216 % 256, (x : Int) / 65536 % 256, (x : Int) / 256 % 256, (x : Int) % 256]
def sumT (s : ByteArray) : Nat := sumL 4294967295 s.data.toList
theorem fourT_size (x : Nat) : (fourT x).size = 4 := by unfold fourT; rw [str_size]; rfl
/-- What Sealed tells. -/
def sealT (s : ByteArray) : ByteArray × Bool := if s.size ≤ 12000 then (s ++ fourT (sumT s), true) else (⟨#[]⟩, false)
theorem impl_in (a b c : Int) : impl_within.f a b c = some (decide (b ≤ a ∧ a ≤ c)) := by
  unfold impl_within.f
  by_cases h : a ≥ b
  · rw [if_pos h]; simp; omega
  · rw [if_neg h]; simp; omega
/-- What Unsealed tells. -/
def unsealT (s : ByteArray) : ByteArray × Bool :=
  if 4 ≤ s.size ∧ s.size ≤ 12004 then (if (s.extract (s.size - 4) s.size).toList = (fourT (sumT (s.extract 0 (s.size - 4)))).toList then (s.extract 0 (s.size - 4), true) else (⟨#[]⟩, false)) else (⟨#[]⟩, false)
theorem spec_unsealed (s : ByteArray) (hs : s.size ≤ 140737488351232) : Ev (fun k => spec_Unsealed.f k s) (unsealT s) := by
  unfold spec_Unsealed.f unsealT
  rw [w64 (x := (s.size : Int) - 4) (by omega) (by omega)]
  by_cases h : 4 ≤ s.size ∧ s.size ≤ 12004
  · have e : ((s.size : Int) - 4).toNat = s.size - 4 := by omega
    simp only [if_neg (show ¬ (s.size : Int) - 4 < 0 by omega), if_neg (show ¬ (s.size : Int) - 4 > 12000 by omega), if_pos (show (0 : Int) ≤ (s.size : Int) - 4 by omega), if_pos (show (s.size : Int) - 4 ≤ (s.size : Int) by omega), if_pos h, e]
    refine Ev.bind (spec_sumOf (s.extract 0 (s.size - 4)) (by simp; omega)) ?_
    show Ev (fun k => (some (fourT (sumT (s.extract 0 (s.size - 4))))).bind _) _
    simp only [Option.bind_some]
    by_cases h2 : (s.extract (s.size - 4) s.size).toList = (fourT (sumT (s.extract 0 (s.size - 4)))).toList
    · simp only [if_pos h2]; exact Ev.now _
    · simp only [if_neg h2]; exact Ev.now _
  · simp only [if_neg h]
    by_cases h1 : (s.size : Int) - 4 < 0
    · simp only [if_pos h1]; exact Ev.now _
    · simp only [if_neg h1, if_pos (show (s.size : Int) - 4 > 12000 by omega)]; exact Ev.now _
theorem impl_unsealed (s : ByteArray) (hs : s.size ≤ 140737488351232) : Ev (fun k => impl_Unsealed.f k s) (unsealT s) := by
  unfold impl_Unsealed.f unsealT
  rw [w64 (x := (s.size : Int) - 4) (by omega) (by omega), impl_in]
  simp only [Option.bind_some]
  by_cases h : 4 ≤ s.size ∧ s.size ≤ 12004
  · have e : ((s.size : Int) - 4).toNat = s.size - 4 := by omega
    simp only [show decide ((0 : Int) ≤ (s.size : Int) - 4 ∧ (s.size : Int) - 4 ≤ 12000) = true from decide_eq_true (by omega), if_true, if_pos (show (0 : Int) ≤ (s.size : Int) - 4 by omega), if_pos (show (s.size : Int) - 4 ≤ (s.size : Int) by omega), if_pos h, e]
    refine Ev.bind (impl_sumOf (s.extract 0 (s.size - 4)) (by simp; omega)) ?_
    show Ev (fun k => (some (fourT (sumT (s.extract 0 (s.size - 4))))).bind _) _
    simp only [Option.bind_some]
    by_cases h2 : (s.extract (s.size - 4) s.size).toList = (fourT (sumT (s.extract 0 (s.size - 4)))).toList
    · simp only [if_pos h2]; exact Ev.now _
    · simp only [if_neg h2]; exact Ev.now _
  · simp only [if_neg h, show decide ((0 : Int) ≤ (s.size : Int) - 4 ∧ (s.size : Int) - 4 ≤ 12000) = false from decide_eq_false (by omega)]
    exact Ev.now _
theorem FnExactUnsealed : laws_FnExactUnsealed.Pure := by
  intro s hs
  unfold laws_FnExactUnsealed.f
  by_cases h : (s.size : Int) > 1048576
  · exact ⟨0, if_pos h⟩
  · simp only [if_neg h]
    exact Ev.rounds (Ev.bind (spec_unsealed s hs) (Ev.bind (impl_unsealed s hs) (by simpa using Ev.now true)))
end Go.Proofs.Ytcnajbnamgohnaa.Pure
