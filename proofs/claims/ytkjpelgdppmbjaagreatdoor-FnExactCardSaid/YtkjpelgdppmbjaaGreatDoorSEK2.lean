/- Walks of the library's number reading: small functions. -/
import Derived.Test.YtkjpelgdppmbjaaGreatDoorSEShelf
import Derived.Test.YtkjpelgdppmbjaaGreatDoorSEK1
import Derived.Lib.Hide
import Derived.Deep.QuietTactic
import Derived.BigQuiet
import Derived.WalkLawsBesides
import Derived.Laws.BitsAllLaws
import Derived.Laws.Externs
import Derived.Deep.LoopGhost
import Derived.WalkMore
namespace Go.Proofs.YtkjpelgdppmbjaaGreatDoor.SF
open Go.RowKit Go.Proofs.YtkjpelgdppmbjaaGreatDoorW.PrintWords Go.Proofs.YtkjpelgdppmbjaaGreatDoor.CB

theorem pow_cast (s : Nat) : ((2 ^ s : Nat) : Int) = (2 : Int) ^ s := by rw [Int.natCast_pow]; rfl

def num (l : List UInt8) : Nat := l.foldl (fun a c => a * 10 + (c.toNat - 48)) 0
theorem num_from (l : List UInt8) (a : Nat) : l.foldl (fun a c => a * 10 + (c.toNat - 48)) a = a * 10 ^ l.length + num l := by
 induction l generalizing a with
 | nil => simp [num]
 | cons c l ih =>
  unfold num
  rw [List.foldl_cons, List.foldl_cons, ih, ih (0 * 10 + _), List.length_cons, Nat.pow_succ, Nat.add_mul]
  simp only [Nat.zero_mul, Nat.zero_add]
  have : a * 10 * 10 ^ l.length = a * (10 ^ l.length * 10) := by ac_rfl
  omega
theorem num_lt (l : List UInt8) (h : ∀ c ∈ l, c.toNat ≤ 57) : num l < 10 ^ l.length := by
 induction l with
 | nil => exact Nat.one_pos
 | cons c l ih =>
  have h1 := ih (fun x hx => h x (List.mem_cons_of_mem _ hx))
  have h2 := h c (List.mem_cons_self ..)
  unfold num
  rw [List.foldl_cons, num_from, List.length_cons, Nat.pow_succ]
  have : (0 * 10 + (c.toNat - 48)) * 10 ^ l.length ≤ 9 * 10 ^ l.length := Nat.mul_le_mul_right _ (by omega)
  omega
theorem take_next (s : ByteArray) (k : Nat) (h : k < s.size) : s.data.toList.take (k + 1) = s.data.toList.take k ++ [s[k]] := by
 rw [List.take_succ_eq_append_getElem (by simpa using h)]; rfl
def lost (l : List UInt8) : Bool := (l.drop 19).any (fun c => c != 48)
theorem lost_next (s : ByteArray) (k : Nat) (h : k < s.size) : lost (s.data.toList.take (k + 1)) = (lost (s.data.toList.take k) || (decide (19 ≤ k) && s[k] != 48)) := by
 have hl : (s.data.toList.take k).length = k := by rw [List.length_take, Nat.min_eq_left]; simp; exact Nat.le_of_lt h
 unfold lost
 rw [take_next s k h, List.drop_append, hl]
 by_cases h19 : 19 ≤ k
 ·rw [show 19 - k = 0 by omega, List.drop_zero, List.any_append, decide_eq_true h19]; simp
 ·rw [decide_eq_false h19]
  have : List.drop (19 - k) [s[k]] = [] := List.drop_eq_nil_of_le (by simp; omega)
  rw [this, List.append_nil]; simp
structure RdAt (s : ByteArray) (n k mk c : Nat) (tt gg : Bool) : Prop where
 hk : k ≤ n
 hm : mk = num (s.data.toList.take (min k 19))
 hc : c = min k 19
 ht : tt = lost (s.data.toList.take k)
 hg : gg = decide (0 < k)
theorem RdAt.zero (s : ByteArray) (n : Nat) : RdAt s n 0 0 0 false false := ⟨Nat.zero_le _, rfl, rfl, rfl, rfl⟩
theorem RdAt.small {s : ByteArray} {n k mk c : Nat} {tt gg : Bool} (h : RdAt s n k mk c tt gg) (h19 : k < 19) (hd : ∀ j, j < k → ∀ h : j < s.size, s[j].toNat ≤ 57) : mk < 1000000000000000000 := by
  rw [h.hm]
  have h1 := num_lt (s.data.toList.take (min k 19)) (by
    intro x hx
    obtain ⟨j, hj, rfl⟩ := List.mem_iff_getElem.1 hx
    rw [List.length_take] at hj
    rw [List.getElem_take]
    exact hd j (by omega) (by have : j < s.data.toList.length := by omega
                              simpa using this))
  refine Nat.lt_of_lt_of_le h1 ?_
  exact Nat.le_trans (Nat.pow_le_pow_right (by omega) (show _ ≤ 18 by rw [List.length_take]; omega)) (by decide)
theorem RdAt.next {s : ByteArray} {n k mk c : Nat} {tt gg : Bool} (h : RdAt s n k mk c tt gg) (h19 : ¬ k < 19) (hn : k < n) (hs : k < s.size) : RdAt s n (k + 1) mk c (tt || s[k] != 48) true := by
 refine ⟨hn, ?_, by rw [h.hc]; omega, ?_, by simp⟩
 ·rw [h.hm, show min (k + 1) 19 = min k 19 by omega]
 ·rw [lost_next s k hs, decide_eq_true (by omega), Bool.true_and, h.ht]


end Go.Proofs.YtkjpelgdppmbjaaGreatDoor.SF
