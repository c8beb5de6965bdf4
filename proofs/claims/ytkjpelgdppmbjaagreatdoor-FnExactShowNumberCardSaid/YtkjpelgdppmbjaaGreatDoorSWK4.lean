/- Values of decimal numbers: between powers of ten and of two. No condition beyond those typed. -/
import Derived.Test.YtkjpelgdppmbjaaGreatDoorSWZip
import Derived.Test.YtkjpelgdppmbjaaGreatDoorSWK3
import Derived.ScopeJumps
import Derived.WalkMore
import Derived.Test.YtkjpelgdppmbjaaGreatDoorSWK1
import Derived.RegionTactic
import Derived.ChangeAlike
import Derived.BigRegion
import Derived.BigQuiet
import Derived.Test.YtkjpelgdppmbjaaGreatDoorSWK2
import Derived.Lib.ItoaNum
namespace Go.Proofs.YtkjpelgdppmbjaaGreatDoor.SF

theorem val_two {ds : List Nat} {dp : Int} {D : Nat} {z E : Int} (hv : Val ds dp D z E) : ∃ a b : Nat, dp - ds.length = E + a - b ∧ numL ds * 10 ^ a * 2 ^ (-z).toNat = D * 2 ^ z.toNat * 10 ^ b := by
 obtain ⟨a, b, l, n, h1, h2, h3⟩ := hv
 refine ⟨a, b, h1, ?_⟩
 rcases Nat.le_total l n with h | h
 ·obtain ⟨t, rfl⟩ := Nat.le.dest h
  rw [show (-z).toNat = t by omega, show z.toNat = 0 by omega, Nat.pow_zero, Nat.mul_one]
  apply Nat.eq_of_mul_eq_mul_right (Nat.pow_pos (n := l) (show 0 < 2 by omega))
  calc numL ds * 10 ^ a * 2 ^ t * 2 ^ l = numL ds * 10 ^ a * 2 ^ (l + t) := by rw [Nat.pow_add]; ac_rfl
   _ = D * 10 ^ b * 2 ^ l := by rw [h3]; ac_rfl
 ·obtain ⟨t, rfl⟩ := Nat.le.dest h
  rw [show (-z).toNat = 0 by omega, show z.toNat = t by omega, Nat.pow_zero, Nat.mul_one]
  apply Nat.eq_of_mul_eq_mul_right (Nat.pow_pos (n := n) (show 0 < 2 by omega))
  rw [h3, Nat.pow_add]; ac_rfl
theorem numL_top {ds : List Nat} (h : ds.getD 0 0 ≠ 0) : ds.getD 0 0 * 10 ^ (ds.length - 1) ≤ numL ds := by
 rcases ds with _ | ⟨c, l⟩
 ·exact absurd rfl h
 ·rw [numL_cons, List.length_cons, Nat.add_sub_cancel]
  show c * _ ≤ _
  omega
theorem val_top {ds : List Nat} {dp : Int} {D t : Nat} {z E : Int} (h0 : ds.getD 0 0 ≠ 0) (ht : t ≤ ds.getD 0 0) (hv : Val ds dp D z E) (c d : Nat) (hcd : (c : Int) - d = dp - 1) :
  t * 10 ^ c * (2 ^ (-z).toNat * 10 ^ (-E).toNat) ≤ D * 2 ^ z.toNat * 10 ^ E.toNat * 10 ^ d := by
 obtain ⟨a, b, h1, h3⟩ := val_two hv
 have hl : 1 ≤ ds.length := by
  rcases Nat.eq_zero_or_pos ds.length with h | h
  ·exact absurd (getD_out _ (Nat.le_of_eq h)) h0
  ·exact h
 have hN := numL_top h0
 apply Nat.le_of_mul_le_mul_right (c := 10 ^ b) ?_ (Nat.pow_pos (by omega))
 have e1 : D * 2 ^ z.toNat * 10 ^ E.toNat * 10 ^ d * 10 ^ b = numL ds * (10 ^ (a + E.toNat + d) * 2 ^ (-z).toNat) := by
  calc D * 2 ^ z.toNat * 10 ^ E.toNat * 10 ^ d * 10 ^ b = (D * 2 ^ z.toNat * 10 ^ b) * 10 ^ E.toNat * 10 ^ d := by ac_rfl
   _ = numL ds * (10 ^ (a + E.toNat + d) * 2 ^ (-z).toNat) := by rw [← h3, Nat.pow_add, Nat.pow_add]; ac_rfl
 have e2 : t * 10 ^ c * (2 ^ (-z).toNat * 10 ^ (-E).toNat) * 10 ^ b = t * 10 ^ (ds.length - 1) * (10 ^ (a + E.toNat + d) * 2 ^ (-z).toNat) := by
  calc t * 10 ^ c * (2 ^ (-z).toNat * 10 ^ (-E).toNat) * 10 ^ b = t * 10 ^ (c + (-E).toNat + b) * 2 ^ (-z).toNat := by rw [Nat.pow_add, Nat.pow_add]; ac_rfl
   _ = t * 10 ^ (ds.length - 1 + (a + E.toNat + d)) * 2 ^ (-z).toNat := by rw [show c + (-E).toNat + b = ds.length - 1 + (a + E.toNat + d) by omega]
   _ = _ := by rw [Nat.pow_add]; ac_rfl
 rw [e1, e2]
 exact Nat.mul_le_mul_right _ (Nat.le_trans (Nat.mul_le_mul_right _ ht) hN)
theorem val_ge {ds : List Nat} {dp : Int} {D : Nat} {z E : Int} (h0 : ds.getD 0 0 ≠ 0) (hv : Val ds dp D z E) (c d : Nat) (hcd : (c : Int) - d = dp - 1) :
  10 ^ c * (2 ^ (-z).toNat * 10 ^ (-E).toNat) ≤ D * 2 ^ z.toNat * 10 ^ E.toNat * 10 ^ d := by
 have := val_top h0 (Nat.pos_of_ne_zero h0 : 1 ≤ ds.getD 0 0) hv c d hcd
 rw [Nat.one_mul] at this; exact this
theorem val_below {ds : List Nat} {dp : Int} {D t : Nat} {z E : Int} (hten : ∀ i, ds.getD i 0 < 10) (h0 : ds.getD 0 0 ≠ 0) (ht : ds.getD 0 0 < t) (hv : Val ds dp D z E) (c d : Nat) (hcd : (c : Int) - d = dp - 1) :
  D * 2 ^ z.toNat * 10 ^ E.toNat * 10 ^ d < t * 10 ^ c * (2 ^ (-z).toNat * 10 ^ (-E).toNat) := by
 obtain ⟨a, b, h1, h3⟩ := val_two hv
 have hl : 1 ≤ ds.length := by
  rcases Nat.eq_zero_or_pos ds.length with h | h
  ·exact absurd (getD_out _ (Nat.le_of_eq h)) h0
  ·exact h
 have hN : numL ds < t * 10 ^ (ds.length - 1) := by
  rcases ds with _ | ⟨x, l⟩
  ·exact absurd rfl h0
  ·have h5 := numL_lt l (fun i => hten (i + 1))
   rw [numL_cons, List.length_cons, Nat.add_sub_cancel]
   have : (x + 1) * 10 ^ l.length ≤ t * 10 ^ l.length := Nat.mul_le_mul_right _ ht
   rw [Nat.add_mul, Nat.one_mul] at this
   omega
 apply Nat.lt_of_mul_lt_mul_right (a := 10 ^ b)
 have e1 : D * 2 ^ z.toNat * 10 ^ E.toNat * 10 ^ d * 10 ^ b = numL ds * (10 ^ (a + E.toNat + d) * 2 ^ (-z).toNat) := by
  calc D * 2 ^ z.toNat * 10 ^ E.toNat * 10 ^ d * 10 ^ b = (D * 2 ^ z.toNat * 10 ^ b) * 10 ^ E.toNat * 10 ^ d := by ac_rfl
   _ = numL ds * (10 ^ (a + E.toNat + d) * 2 ^ (-z).toNat) := by rw [← h3, Nat.pow_add, Nat.pow_add]; ac_rfl
 have e2 : t * 10 ^ c * (2 ^ (-z).toNat * 10 ^ (-E).toNat) * 10 ^ b = t * 10 ^ (ds.length - 1) * (10 ^ (a + E.toNat + d) * 2 ^ (-z).toNat) := by
  calc t * 10 ^ c * (2 ^ (-z).toNat * 10 ^ (-E).toNat) * 10 ^ b = t * 10 ^ (c + (-E).toNat + b) * 2 ^ (-z).toNat := by rw [Nat.pow_add, Nat.pow_add]; ac_rfl
   _ = t * 10 ^ (ds.length - 1 + (a + E.toNat + d)) * 2 ^ (-z).toNat := by rw [show c + (-E).toNat + b = ds.length - 1 + (a + E.toNat + d) by omega]
   _ = _ := by rw [Nat.pow_add]; ac_rfl
 rw [e1, e2]
 exact Nat.mul_lt_mul_of_pos_right hN (Nat.mul_pos (Nat.pow_pos (by omega)) (Nat.pow_pos (by omega)))
theorem val_lt {ds : List Nat} {dp : Int} {D : Nat} {z E : Int} (hten : ∀ i, ds.getD i 0 < 10) (h0 : ds.getD 0 0 ≠ 0) (hv : Val ds dp D z E) (c d : Nat) (hcd : (c : Int) - d = dp) :
  D * 2 ^ z.toNat * 10 ^ E.toNat * 10 ^ d < 10 ^ c * (2 ^ (-z).toNat * 10 ^ (-E).toNat) := by
 have h := val_below hten h0 (hten 0) hv c (d + 1) (by omega)
 rw [Nat.pow_succ] at h
 generalize 2 ^ (-z).toNat * 10 ^ (-E).toNat = Y at *
 have e : 10 * 10 ^ c * Y = 10 ^ c * Y * 10 := by ac_rfl
 rw [e, ← Nat.mul_assoc] at h
 exact Nat.lt_of_mul_lt_mul_right h
end Go.Proofs.YtkjpelgdppmbjaaGreatDoor.SF
namespace Go.Proofs.YtkjpelgdppmbjaaGreatDoor.SF
open Go.RowKit YtkjpelgdppmbjaaGreatDoorW.PrintWords Go.Proofs.YtkjpelgdppmbjaaGreatDoor.CB


def pw (i : Nat) : Nat := if 9 ≤ i then 27 else [1, 3, 6, 9, 13, 16, 19, 23, 26].getD i 0
theorem pw_two (i : Nat) (h : 1 ≤ i) : 2 ^ pw i ≤ 9 * 10 ^ (i - 1) := by
 unfold pw
 split
 ·have : (10 : Nat) ^ 8 ≤ 10 ^ (i - 1) := Nat.pow_le_pow_right (by omega) (by omega)
  have e : (2 : Nat) ^ 27 ≤ 9 * 10 ^ 8 := by decide
  omega
 ·have : i = 1 ∨ i = 2 ∨ i = 3 ∨ i = 4 ∨ i = 5 ∨ i = 6 ∨ i = 7 ∨ i = 8 := by omega
  rcases this with rfl | rfl | rfl | rfl | rfl | rfl | rfl | rfl <;> decide
structure On (B D : Nat) (E : Int) (w wr : World) (es : List Nat) (g : Nat → Value) (q z : Int) : Prop where
 arr : Arr wr B g
 dec : Dec g es q false false
 top : es.getD 0 0 ≠ 0
 val : Val es q D z E
 bel : Below B w wr
 fine : Good es ∨ es.length ≤ 60
@[irreducible] def top2 : Nat := 2 ^ 1024
@[irreducible] def T700 : Nat := 10 ^ 700
@[irreducible] def T331 : Nat := 10 ^ 331
@[irreducible] def P1200 : Nat := 2 ^ 1200
theorem up_ten (m k : Nat) (h : m ≤ k) : 10 ^ m ≤ 10 ^ k := Nat.pow_le_pow_right (by omega) h
theorem up_two (m k : Nat) (h : m ≤ k) : 2 ^ m ≤ 2 ^ k := Nat.pow_le_pow_right (by omega) h
theorem T700_le (k : Nat) (h : 700 ≤ k) : T700 ≤ 10 ^ k := by unfold T700; exact up_ten 700 k h
theorem P1200_ge (k : Nat) (h : k ≤ 1200) : 2 ^ k ≤ P1200 := by unfold P1200; exact up_two k 1200 h
structure Num (D : Nat) (E : Int) : Prop where
 pos : 1 ≤ D
 few : D < 10 ^ 60
 hi : D * 10 ^ E.toNat < top2 * 10 ^ (-E).toNat
 lo : 10 ^ (-E).toNat ≤ D * 10 ^ E.toNat * T331
theorem On.len {B D : Nat} {E : Int} {w wr : World} {es : List Nat} {g : Nat → Value} {q z : Int} (h : On B D E w wr es g q z) (M : Nat) (hM : 60 ≤ M) (hb : D * 2 ^ z.toNat * 5 ^ (-z).toNat < 10 ^ M) : es.length ≤ M := by
 rcases h.fine with hg | hl
 ·exact len_lt hg (val_le hg h.dec.ten h.val) hb
 ·omega
theorem lt_16 {a b c : Nat} (h : a ≤ 9 * b) (h2 : b < c) : a < 16 * c := by omega
theorem big_16 : (2 : Nat) ^ 1028 = 16 * top2 := by decide +kernel
theorem big_a : P1200 * T331 ≤ T700 := by decide +kernel
theorem big_b : P1200 * top2 < T700 := by decide +kernel
def Down (D : Nat) (E z : Int) : Prop := 2 ^ (-z).toNat * 10 ^ (-E).toNat ≤ 9 * (D * 10 ^ E.toNat) ∨ 0 ≤ z
theorem Down.z {D : Nat} {E z : Int} (h : Down D E z) (hn : Num D E) : -1028 ≤ z := by
 rcases h with h | h
 ·have h1 : 2 ^ (-z).toNat * 10 ^ (-E).toNat < 2 ^ 1028 * 10 ^ (-E).toNat := by
   have h2 := hn.hi
   rw [big_16, Nat.mul_assoc]
   exact lt_16 h h2
  have h4 := Nat.lt_of_mul_lt_mul_right h1
  have := (Nat.pow_lt_pow_iff_right (show 1 < 2 by omega)).1 h4
  omega
 ·omega
theorem big_five : (10 : Nat) ^ 60 * 5 ^ 1028 * 2 ^ 27 < 10 ^ 800 := by decide +kernel
theorem On.room {B D : Nat} {E : Int} {w wr : World} {es : List Nat} {g : Nat → Value} {q z : Int} (h : On B D E w wr es g q z) (hn : Num D E) (hz : z ≤ 0) (n : Nat) (hn27 : n ≤ 27) (hd : Down D E (z - n)) : es.length + n ≤ 800 := by
 have h1 := hd.z hn
 have hf := hn.few
 have hM : D * 2 ^ z.toNat * 5 ^ (-z).toNat < 10 ^ (800 - n) := by
  rw [show z.toNat = 0 by omega, Nat.pow_zero, Nat.mul_one]
  apply Nat.lt_of_mul_lt_mul_right (a := 10 ^ n)
  rw [← Nat.pow_add, show 800 - n + n = 800 by omega]
  refine Nat.lt_of_le_of_lt ?_ big_five
  calc D * 5 ^ (-z).toNat * 10 ^ n = D * 5 ^ ((-z).toNat + n) * 2 ^ n := by rw [show (10 : Nat) ^ n = 5 ^ n * 2 ^ n by rw [← Nat.mul_pow], Nat.pow_add]; ac_rfl
   _ ≤ 10 ^ 60 * 5 ^ 1028 * 2 ^ 27 := Nat.mul_le_mul (Nat.mul_le_mul (Nat.le_of_lt hf) (Nat.pow_le_pow_right (by omega) (by omega))) (Nat.pow_le_pow_right (by omega) hn27)
 have := h.len (800 - n) (by omega) hM
 omega
theorem On.down {B D : Nat} {E : Int} {w wr : World} {es : List Nat} {g : Nat → Value} {q z : Int} (h : On B D E w wr es g q z) (hz : z ≤ 0) (hq : 0 < q) : Down D E (z - (pw q.toNat : Nat)) := by
 left
 have h1 := val_ge h.top h.val (q - 1).toNat 0 (by omega)
 have h2 := pw_two q.toNat (by omega)
 rw [show z.toNat = 0 by omega] at h1
 simp only [Nat.pow_zero, Nat.mul_one] at h1
 rw [show (-(z - (pw q.toNat : Nat))).toNat = (-z).toNat + pw q.toNat by omega, Nat.pow_add]
 rw [show q.toNat - 1 = (q - 1).toNat by omega] at h2
 calc 2 ^ (-z).toNat * 2 ^ pw q.toNat * 10 ^ (-E).toNat = 2 ^ pw q.toNat * (2 ^ (-z).toNat * 10 ^ (-E).toNat) := by ac_rfl
  _ ≤ 9 * 10 ^ (q - 1).toNat * (2 ^ (-z).toNat * 10 ^ (-E).toNat) := Nat.mul_le_mul_right _ h2
  _ = 9 * (10 ^ (q - 1).toNat * (2 ^ (-z).toNat * 10 ^ (-E).toNat)) := by ac_rfl
  _ ≤ 9 * (D * 10 ^ E.toNat) := Nat.mul_le_mul_left _ h1
theorem On.near {B D : Nat} {E : Int} {w wr : World} {es : List Nat} {g : Nat → Value} {q z : Int} (h : On B D E w wr es g q z) (hn : Num D E) (hz1 : -1200 ≤ z) (hz2 : z ≤ 1200) : -700 ≤ q ∧ q ≤ 700 := by
 constructor
 ·rcases Int.lt_or_le q (-700) with hq | hq
  ·exfalso
   have h1 := val_lt h.dec.ten h.top h.val 0 (-q).toNat (by omega)
   have h2 := hn.lo
   have h3 := T700_le (-q).toNat (by omega)
   have h4 := P1200_ge (-z).toNat (by omega)
   have hp : 1 ≤ 2 ^ z.toNat := Nat.pow_pos (by omega)
   rw [Nat.pow_zero, Nat.one_mul] at h1
   have h6 : D * 10 ^ E.toNat * T700 ≤ D * 2 ^ z.toNat * 10 ^ E.toNat * 10 ^ (-q).toNat := by
    refine Nat.mul_le_mul ?_ h3
    exact Nat.mul_le_mul_right _ (Nat.le_mul_of_pos_right _ hp)
   have h7 : 2 ^ (-z).toNat * 10 ^ (-E).toNat ≤ D * 10 ^ E.toNat * T700 := by
    calc 2 ^ (-z).toNat * 10 ^ (-E).toNat ≤ P1200 * (D * 10 ^ E.toNat * T331) := Nat.mul_le_mul h4 h2
     _ = D * 10 ^ E.toNat * (P1200 * T331) := Nat.mul_left_comm _ _ _
     _ ≤ _ := Nat.mul_le_mul_left _ big_a
   exact absurd (Nat.lt_of_le_of_lt h6 h1) (Nat.not_lt.2 h7)
  ·exact hq
 ·rcases Int.lt_or_le 700 q with hq | hq
  ·exfalso
   have h1 := val_ge h.top h.val (q - 1).toNat 0 (by omega)
   have h2 := hn.hi
   have h3 := T700_le (q - 1).toNat (by omega)
   have h4 := P1200_ge z.toNat (by omega)
   rw [Nat.pow_zero, Nat.mul_one] at h1
   have hp : 1 ≤ 2 ^ (-z).toNat := Nat.pow_pos (by omega)
   have hp2 : 0 < 10 ^ (-E).toNat := Nat.pow_pos (by omega)
   have h6 : T700 * 10 ^ (-E).toNat ≤ 10 ^ (q - 1).toNat * (2 ^ (-z).toNat * 10 ^ (-E).toNat) := Nat.mul_le_mul h3 (Nat.le_mul_of_pos_left _ hp)
   have h7 : D * 2 ^ z.toNat * 10 ^ E.toNat < T700 * 10 ^ (-E).toNat := by
    calc D * 2 ^ z.toNat * 10 ^ E.toNat = D * 10 ^ E.toNat * 2 ^ z.toNat := by ac_rfl
     _ ≤ top2 * 10 ^ (-E).toNat * P1200 := Nat.mul_le_mul (Nat.le_of_lt h2) h4
     _ = P1200 * (top2 * 10 ^ (-E).toNat) := Nat.mul_comm _ _
     _ = P1200 * top2 * 10 ^ (-E).toNat := (Nat.mul_assoc _ _ _).symm
     _ < _ := Nat.mul_lt_mul_of_pos_right big_b hp2
   exact absurd (Nat.lt_of_lt_of_le h7 h6) (Nat.not_lt.2 h1)
  ·exact hq

def Less (D : Nat) (E z : Int) (s t : Nat) : Prop := D * 2 ^ z.toNat * 10 ^ E.toNat * s < t * (2 ^ (-z).toNat * 10 ^ (-E).toNat)
theorem two_cross (z : Int) (n : Nat) : 2 ^ (z + n).toNat * 2 ^ (-z).toNat = 2 ^ n * 2 ^ z.toNat * 2 ^ (-(z + n)).toNat := by
 rw [← Nat.pow_add, ← Nat.pow_add, ← Nat.pow_add]; congr 1; omega
theorem Less.up {D s t : Nat} {E z : Int} (h : Less D E z s t) (n : Nat) : Less D E (z + n) s (t * 2 ^ n) := by
 have hc := two_cross z n
 unfold Less at *
 have hp : 0 < 2 ^ (-(z + n)).toNat := Nat.pow_pos (by omega)
 have hp2 : 0 < 2 ^ n := Nat.pow_pos (by omega)
 generalize 2 ^ (z + n).toNat = a at *
 generalize 2 ^ (-z).toNat = b at *
 generalize 2 ^ n = c at *
 generalize 2 ^ z.toNat = d at *
 generalize 2 ^ (-(z + n)).toNat = e at *
 generalize 10 ^ E.toNat = f at *
 generalize 10 ^ (-E).toNat = g at *
 have h1 := Nat.mul_lt_mul_of_pos_right h (Nat.mul_pos hp2 hp)
 apply Nat.lt_of_mul_lt_mul_right (a := b)
 calc D * a * f * s * b = D * f * s * (a * b) := by ac_rfl
  _ = D * d * f * s * (c * e) := by rw [hc]; ac_rfl
  _ < t * (b * g) * (c * e) := h1
  _ = t * c * (e * g) * b := by ac_rfl
theorem Less.mono {D s t s' t' : Nat} {E z : Int} (h : Less D E z s t) (hs : 0 < s') (hm : t * s' ≤ t' * s) : Less D E z s' t' := by
 unfold Less at *
 generalize D * 2 ^ z.toNat * 10 ^ E.toNat = A at *
 generalize 2 ^ (-z).toNat * 10 ^ (-E).toNat = Q at *
 apply Nat.lt_of_mul_lt_mul_right (a := s)
 calc A * s' * s = A * s * s' := by ac_rfl
  _ < t * Q * s' := Nat.mul_lt_mul_of_pos_right h hs
  _ = t * s' * Q := by ac_rfl
  _ ≤ t' * s * Q := Nat.mul_le_mul_right _ hm
  _ = t' * Q * s := by ac_rfl
theorem On.up {B D : Nat} {E : Int} {w wr : World} {es : List Nat} {g : Nat → Value} {q z : Int} (h : On B D E w wr es g q z) (hq : q < 0 ∨ (q = 0 ∧ es.getD 0 0 < 5)) : Less D E (z + (pw (-q).toNat : Nat)) 1 1 := by
 rcases hq with hq | ⟨hq, ht⟩
 ·have h1 : Less D E z (10 ^ (-q).toNat) (10 ^ 0) := val_lt h.dec.ten h.top h.val 0 (-q).toNat (by omega)
  refine (h1.up (pw (-q).toNat)).mono (by omega) ?_
  have h2 := pw_two (-q).toNat (by omega)
  have h3 : 10 ^ (-q).toNat = 10 ^ ((-q).toNat - 1) * 10 := by rw [← Nat.pow_succ]; congr 1; omega
  omega
 ·subst hq
  have h1 : Less D E z (10 ^ 1) (5 * 10 ^ 0) := val_below h.dec.ten h.top ht h.val 0 1 (by omega)
  exact (h1.up (pw (-(0 : Int)).toNat)).mono (by omega) (by decide)
theorem Less.le {B D : Nat} {E : Int} {w wr : World} {es : List Nat} {g : Nat → Value} {q z : Int} (h : On B D E w wr es g q z) (hl : Less D E z 1 1) : q ≤ 0 := by
 rcases Int.lt_or_le 0 q with hq | hq
 ·exfalso
  have h1 := val_ge h.top h.val (q - 1).toNat 0 (by omega)
  have h2 := hl.mono (s' := 10 ^ 0) (t' := 10 ^ (q - 1).toNat) (by decide) (by have : 1 ≤ 10 ^ (q - 1).toNat := Nat.pow_pos (by omega); omega)
  exact absurd h2 (Nat.not_lt.2 h1)
 ·exact hq
theorem On.below {B D : Nat} {E : Int} {w wr : World} {es : List Nat} {g : Nat → Value} {q z : Int} (h : On B D E w wr es g q z) (hq : q ≤ 0) : Less D E z 1 1 := by
 have h1 : Less D E z (10 ^ (-q).toNat) (10 ^ 0) := val_lt h.dec.ten h.top h.val 0 (-q).toNat (by omega)
 exact h1.mono (by omega) (by have : 1 ≤ 10 ^ (-q).toNat := Nat.pow_pos (by omega); omega)
theorem T331_lt : T331 < 2 ^ 1100 := by decide +kernel
theorem T331_le (k : Nat) (h : 1100 ≤ k) : T331 < 2 ^ k := Nat.lt_of_lt_of_le T331_lt (up_two 1100 k h)
theorem Less.z {D : Nat} {E z : Int} (h : Less D E z 1 1) (hn : Num D E) : z < 1100 := by
 rcases Int.lt_or_le z 1100 with hz | hz
 ·exact hz
 ·exfalso
  have h1 := hn.lo
  have h2 := T331_le z.toNat (by omega)
  have hp := hn.pos
  unfold Less at h
  rw [show (-z).toNat = 0 by omega, Nat.pow_zero, Nat.one_mul, Nat.one_mul, Nat.mul_one] at h
  have h3 : D * 10 ^ E.toNat * T331 ≤ D * 10 ^ E.toNat * 2 ^ z.toNat := Nat.mul_le_mul_left _ (Nat.le_of_lt h2)
  have h4 : D * 2 ^ z.toNat * 10 ^ E.toNat = D * 10 ^ E.toNat * 2 ^ z.toNat := by ac_rfl
  omega
theorem Down.up {D : Nat} {E z : Int} (h : Down D E z) (n : Nat) : Down D E (z + n) := by
 rcases h with h | h
 ·left
  refine Nat.le_trans (Nat.mul_le_mul_right _ (Nat.pow_le_pow_right (by omega) ?_)) h
  omega
 ·right; omega
theorem On.half {B D : Nat} {E : Int} {w wr : World} {es : List Nat} {g : Nat → Value} {q z : Int} (h : On B D E w wr es g q z) (hq : q = 0) (ht : 5 ≤ es.getD 0 0) : 2 ^ (-z).toNat * 10 ^ (-E).toNat ≤ 2 * (D * 2 ^ z.toNat * 10 ^ E.toNat) := by
 have h1 := val_top h.top ht h.val 0 1 (by omega)
 omega
end Go.Proofs.YtkjpelgdppmbjaaGreatDoor.SF
namespace Go.Proofs.YtkjpelgdppmbjaaGreatDoor.SF
open Go.RowKit YtkjpelgdppmbjaaGreatDoorW.PrintWords CB Go.Proofs.YtkjpelgdppmbjaaGreatDoor.CQ

structure OnAt (B D : Nat) (E : Int) (w wr : World) (z : Int) : Prop where mk ::
 out : ∃ es g q, On B D E w wr es g q z ∧ Good es
theorem ShiftAt.on {B D : Nat} {E : Int} {w wr w' : World} {z : Int} {lo hi : Int} (h : ShiftAt B wr w' D z E false false lo hi) (hb : Below B w wr) : OnAt B D E w w' z := by
 obtain ⟨es, q, ⟨g, m1, m2, m3⟩, h2, h3, h4, h5⟩ := h.out
 exact ⟨es, g, q, ⟨m1, m2, h2.top, h3, hb.trans m3, .inl h2⟩, h2⟩
theorem rneQ_same {A B C D : Nat} (hB : 0 < B) (hD : 0 < D) (h : A * D = C * B) : rneQ A B = rneQ C D := by
 rw [← rneQ_scale A B D hD, ← rneQ_scale C D B hB, h, Nat.mul_comm B D]
theorem pre_rest (ds : List Nat) (hten : ∀ i, ds.getD i 0 < 10) (p n : Nat) : ∃ t, pre ds (p + n) = pre ds p * 10 ^ n + t ∧ t < 10 ^ n := by
 induction n with
 | zero => exact ⟨0, by simp, by simp⟩
 | succ n ih =>
  obtain ⟨t, h1, h2⟩ := ih
  have h3 := hten (p + n)
  refine ⟨t * 10 + ds.getD (p + n) 0, ?_, by rw [Nat.pow_succ]; omega⟩
  rw [← Nat.add_assoc, pre, h1, Nat.pow_succ, ← Nat.mul_assoc]; omega
theorem rup_round (ds : List Nat) (hten : ∀ i, ds.getD i 0 < 10) (hg : Good ds) (p : Nat) (hp : p ≤ ds.length) : pre ds p + (rup ds p).toNat = rneQ (numL ds) (10 ^ (ds.length - p)) := by
 rcases Nat.eq_or_lt_of_le hp with he | hlt
 ·rw [he, pre_all, Nat.sub_self, Nat.pow_zero, rneQ_one]
  have : rup ds ds.length = false := if_pos (Nat.le_refl _)
  rw [this]; rfl
 ·obtain ⟨n, hn⟩ : ∃ n, ds.length = p + 1 + n := ⟨ds.length - p - 1, by omega⟩
  obtain ⟨t, h1, h2⟩ := pre_rest ds hten (p + 1) n
  rw [← hn, pre_all, pre] at h1
  have hd := hten p
  have hlast := last_mod hg hten
  have ht : t = 0 → n = 0 := by
   intro h0
   rcases n with _ | n
   ·rfl
   ·exfalso
    rw [h1, h0, Nat.add_zero, Nat.pow_succ, ← Nat.mul_assoc, Nat.mul_mod_left] at hlast
    exact hlast rfl
  rw [show ds.length - p = n + 1 by omega]
  have hx : numL ds = pre ds p * 10 ^ (n + 1) + (ds.getD p 0 * 10 ^ n + t) := by
   rw [h1, Nat.pow_succ, Nat.add_mul]
   have : pre ds p * 10 * 10 ^ n = pre ds p * (10 ^ n * 10) := by ac_rfl
   omega
  have hlt2 : ds.getD p 0 * 10 ^ n + t < 10 ^ (n + 1) := by
   have : (ds.getD p 0 + 1) * 10 ^ n ≤ 10 * 10 ^ n := Nat.mul_le_mul_right _ hd
   rw [Nat.add_mul] at this
   rw [Nat.pow_succ]; omega
  have hdiv : numL ds / 10 ^ (n + 1) = pre ds p := by
   rw [hx, Nat.mul_comm, Nat.mul_add_div (Nat.pow_pos (by omega)), Nat.div_eq_of_lt hlt2, Nat.add_zero]
  have hmod : numL ds % 10 ^ (n + 1) = ds.getD p 0 * 10 ^ n + t := by
   rw [hx, Nat.mul_comm, Nat.mul_add_mod, Nat.mod_eq_of_lt hlt2]
  unfold rneQ
  rw [hdiv, hmod]
  congr 1
  have hodd : (0 < p ∧ ds.getD (p - 1) 0 % 2 = 1) ↔ pre ds p % 2 = 1 := by
   rcases p with _ | p
   ·simp [pre]
   ·rw [Nat.add_sub_cancel, pre]; omega
  unfold rup
  rw [if_neg (by omega)]
  have hT : 10 ^ (n + 1) = 10 * 10 ^ n := by rw [Nat.pow_succ, Nat.mul_comm]
  rw [hT]
  have hTp : 0 < 10 ^ n := Nat.pow_pos (by omega)
  have hn1 : p + 1 = ds.length ↔ n = 0 := by omega
  simp only [hn1]
  have hn0 : n = 0 → t = 0 := by intro h0; rw [h0] at h2; simpa using h2
  clear h1 hx hlt2 hdiv hmod hlast hn hn1 hg hlt hp
  generalize 10 ^ n = T at *
  generalize ds.getD p 0 = d at *
  have hdd : d = 0 ∨ d = 1 ∨ d = 2 ∨ d = 3 ∨ d = 4 ∨ d = 5 ∨ d = 6 ∨ d = 7 ∨ d = 8 ∨ d = 9 := by omega
  by_cases hn0' : n = 0
  ·have ht0 := hn0 hn0'
   subst ht0
   by_cases h5 : d = 5
   ·subst h5
    rw [if_pos ⟨rfl, hn0'⟩]
    by_cases ho : pre ds p % 2 = 1
    ·rw [decide_eq_true (hodd.2 ho), if_pos (.inr ⟨by omega, ho⟩)]; rfl
    ·rw [decide_eq_false (fun h => ho (hodd.1 h)), if_neg (by omega)]; rfl
   ·rw [if_neg (fun h => h5 h.1)]
    rcases hdd with rfl | rfl | rfl | rfl | rfl | rfl | rfl | rfl | rfl | rfl <;> first | exact absurd rfl h5 | (rw [if_neg (by omega)]; rfl) | (rw [if_pos (by omega)]; rfl)
  ·have ht0 : 0 < t := by omega
   rw [if_neg (fun h => hn0' h.2)]
   rcases hdd with rfl | rfl | rfl | rfl | rfl | rfl | rfl | rfl | rfl | rfl <;> first | (rw [if_neg (by omega)]; rfl) | (rw [if_pos (by omega)]; rfl)

theorem round_val {ds : List Nat} {dp : Int} {D : Nat} {z E : Int} (hten : ∀ i, ds.getD i 0 < 10) (hg : Good ds) (hv : Val ds dp D z E) (p : Nat) (hp : dp = p) :
  pre ds p + (rup ds p).toNat = rneQ (D * 2 ^ z.toNat * 10 ^ E.toNat) (2 ^ (-z).toNat * 10 ^ (-E).toNat) := by
 obtain ⟨a, b, h1, h2⟩ := val_two hv
 have key : ∀ X Y : Nat, (ds.length : Int) + X = p + Y → rneQ (numL ds * 10 ^ X) (10 ^ Y) = rneQ (D * 2 ^ z.toNat * 10 ^ E.toNat) (2 ^ (-z).toNat * 10 ^ (-E).toNat) := by
  intro X Y hXY
  refine rneQ_same (Nat.pow_pos (by omega)) (Nat.mul_pos (Nat.pow_pos (by omega)) (Nat.pow_pos (by omega))) ?_
  apply Nat.eq_of_mul_eq_mul_right (show 0 < 10 ^ a from Nat.pow_pos (by omega))
  calc numL ds * 10 ^ X * (2 ^ (-z).toNat * 10 ^ (-E).toNat) * 10 ^ a = (numL ds * 10 ^ a * 2 ^ (-z).toNat) * (10 ^ X * 10 ^ (-E).toNat) := by ac_rfl
   _ = D * 2 ^ z.toNat * (10 ^ b * 10 ^ X * 10 ^ (-E).toNat) := by rw [h2]; ac_rfl
   _ = D * 2 ^ z.toNat * (10 ^ E.toNat * 10 ^ Y * 10 ^ a) := by
    rw [← Nat.pow_add, ← Nat.pow_add, ← Nat.pow_add, ← Nat.pow_add]
    congr 2; omega
   _ = _ := by ac_rfl
 rcases Nat.le_total p ds.length with h | h
 ·rw [rup_round ds hten hg p h, ← key 0 (ds.length - p) (by omega), Nat.pow_zero, Nat.mul_one]
 ·obtain ⟨t, rfl⟩ := Nat.le.dest h
  rw [pre_past, ← key t 0 (by omega), Nat.pow_zero, rneQ_one]
  have : rup ds (ds.length + t) = false := if_pos (by omega)
  rw [this]; rfl
theorem rneQ_nil {A B : Nat} (h : 2 * A < B) : rneQ A B = 0 := by
 have h1 : A / B = 0 := Nat.div_eq_of_lt (by omega)
 have h2 : A % B = A := Nat.mod_eq_of_lt (by omega)
 unfold rneQ
 rw [h1, h2, if_neg (by omega)]
theorem rneQ_le {A B k : Nat} (hB : 0 < B) (h : A ≤ k * B) : rneQ A B ≤ k := by
 have h1 := Nat.div_add_mod A B
 have h2 := Nat.mod_lt A hB
 unfold rneQ
 rcases Nat.lt_or_ge (A / B) k with h3 | h3
 ·split <;> omega
 ·have h4 : k * B ≤ A / B * B := Nat.mul_le_mul_right _ h3
  rw [Nat.mul_comm] at h1
  have h5 : A % B = 0 := by omega
  have h6 : A / B = k := by
   apply Nat.eq_of_mul_eq_mul_right hB
   omega
  rw [h5, h6, if_neg (by omega)]; omega
theorem rneQ_ge {A B k : Nat} (hB : 0 < B) (h : k * B ≤ A) : k ≤ rneQ A B := by
 have h1 : k ≤ A / B := (Nat.le_div_iff_mul_le hB).2 h
 unfold rneQ
 omega
theorem On.calls {B D : Nat} {E : Int} {w wr : World} {z : Int} (h : OnAt B D E w wr z) (hl : Less D E z 1 (2 ^ 53)) :
  Calls Tryz.prog 221 #[.pointer (some ⟨B, 0, none⟩)] wr fun e w' => e = .returned (.int .u64 ((rneQ (D * 2 ^ z.toNat * 10 ^ E.toNat) (2 ^ (-z).toNat * 10 ^ (-E).toNat) : Nat) : Int)) ∧ wr = w' := by
 obtain ⟨es, g, q, h, hg⟩ := h.out
 rcases Int.lt_or_le q 0 with hq | hq
 ·have h1 : Less D E z (10 ^ (-q).toNat) (10 ^ 0) := val_lt h.dec.ten h.top h.val 0 (-q).toNat (by omega)
  have h2 : Less D E z 2 1 := h1.mono (by omega) (by
   have : 10 ^ 1 ≤ 10 ^ (-q).toNat := Nat.pow_le_pow_right (by omega) (by omega)
   omega)
  rw [rneQ_nil (by unfold Less at h2; omega)]
  exact rounded_neg B g es q false wr h.arr h.dec hq
 ·have hq2 : q ≤ 16 := by
   rcases Int.lt_or_le 16 q with h16 | h16
   ·exfalso
    have h1 := val_ge h.top h.val (q - 1).toNat 0 (by omega)
    have h2 := hl.mono (s' := 10 ^ 0) (t' := 10 ^ (q - 1).toNat) (by decide) (by
     have h3 : 10 ^ 16 ≤ 10 ^ (q - 1).toNat := Nat.pow_le_pow_right (by omega) (by omega)
     have h4 : (2 : Nat) ^ 53 ≤ 10 ^ 16 := by decide
     omega)
    exact absurd h2 (Nat.not_lt.2 h1)
   ·exact h16
  obtain ⟨p, rfl⟩ : ∃ p : Nat, q = p := ⟨q.toNat, by omega⟩
  rw [← round_val h.dec.ten hg h.val p rfl]
  exact rounded_calls B p g es false wr h.arr h.dec (by omega)

theorem low_and (m : Nat) (h2 : m < 18446744073709551616) : Go.bits .and .u64 (m : Int) 4503599627370495 = ((m % 4503599627370496 : Nat) : Int) := by
 have t1 := and_u64 m 4503599627370495 (by omega) (by omega)
 rw [show (4503599627370495 : Nat) = 2 ^ 52 - 1 by decide, Nat.and_two_pow_sub_one_eq_mod, show (2 : Nat) ^ 52 = 4503599627370496 by decide] at t1
 exact t1
theorem exp_and (J : Nat) (h : J < 2048) : Go.bits .and .i64 (J : Int) 2047 = (J : Int) := by
 have t1 := and_i64 J 2047 (by omega) (by omega)
 rw [show (2047 : Nat) = 2 ^ 11 - 1 by decide, Nat.and_two_pow_sub_one_eq_mod, Nat.mod_eq_of_lt (by omega)] at t1
 exact t1
structure Tab9 (w : World) (B : Nat) : Prop where mk ::
 out : ∃ tb tq tc : Nat, tb < B ∧ 10 < B ∧ 9 ≤ tc ∧ w.cell? ⟨10, 0, none⟩ = some (.slice (some ⟨tb, tq, none⟩) 9 tc) ∧ ∀ i, i < 9 → w.cell? ⟨tb, tq + i, none⟩ = some (.int .i64 (pw i : Nat))
structure Info64 (w : World) (B : Nat) : Prop where mk ::
 blk : 5 < B
 mant : w.cell? ⟨5, 0, none⟩ = some (.int .u64 52)
 exp : w.cell? ⟨5, 1, none⟩ = some (.int .u64 11)
 bias : w.cell? ⟨5, 2, none⟩ = some (.int .i64 (-1023))
theorem Tab9.below {w w' : World} {B : Nat} (h : Tab9 w B) (hb : Below B w w') : Tab9 w' B := by
 obtain ⟨tb, tq, tc, h1, h2, h3, h4, h5⟩ := h
 exact ⟨tb, tq, tc, h1, h2, h3, (hb.cell (p := ⟨_, 0, none⟩) h2).trans h4, fun i hi => (hb.cell (p := ⟨tb, _, none⟩) h1).trans (h5 i hi)⟩
theorem Info64.below {w w' : World} {B : Nat} (h : Info64 w B) (hb : Below B w w') : Info64 w' B :=
 ⟨h.blk, (hb.cell (p := ⟨_, 0, none⟩) h.blk).trans h.mant, (hb.cell (p := ⟨_, 1, none⟩) h.blk).trans h.exp, (hb.cell (p := ⟨_, 2, none⟩) h.blk).trans h.bias⟩
structure OnR (B D : Nat) (E : Int) (w wr : World) (z : Int) : Prop where mk ::
 out : ∃ es g q, On B D E w wr es g q z
structure OnL (B D : Nat) (E : Int) (w wr : World) (z : Int) : Prop where mk ::
 out : ∃ es g q, On B D E w wr es g q z ∧ q ≤ 0
theorem OnAt.low {B D : Nat} {E : Int} {w wr : World} {z : Int} (h : OnAt B D E w wr z) (hl : Less D E z 1 1) : OnL B D E w wr z := by
 obtain ⟨es, g, q, h1, _⟩ := h.out
 exact ⟨es, g, q, h1, Less.le h1 hl⟩
structure OnC (B D : Nat) (E : Int) (w wr : World) (z : Int) : Prop where mk ::
 rel : ∃ es g q, On B D E w wr es g q z
 below : Less D E z 1 1
 lo : -1024 ≤ z
 hi : z ≤ 1021
 half : z = 1021 ∨ 2 ^ (-z).toNat * 10 ^ (-E).toNat ≤ 2 * (D * 2 ^ z.toNat * 10 ^ E.toNat)
theorem Less.down {D : Nat} {E z y : Int} (h : Less D E z 1 1) (hy : y ≤ z) : Less D E y 1 1 := by
 obtain ⟨n, rfl⟩ : ∃ n : Nat, z = y + n := ⟨(z - y).toNat, by omega⟩
 have hc := two_cross y n
 unfold Less at *
 have hp1 : 0 < 2 ^ n := Nat.pow_pos (by omega)
 have hp2 : 0 < 2 ^ (-(y + n)).toNat := Nat.pow_pos (by omega)
 have hp3 : 0 < 2 ^ (-y).toNat := Nat.pow_pos (by omega)
 have hp4 : 1 ≤ 2 ^ n := hp1
 rw [Nat.one_mul, Nat.mul_one] at *
 generalize 2 ^ (y + n).toNat = a at *
 generalize 2 ^ (-y).toNat = b at *
 generalize 2 ^ n = c at *
 generalize 2 ^ y.toNat = d at *
 generalize 2 ^ (-(y + n)).toNat = e at *
 generalize 10 ^ E.toNat = f at *
 generalize 10 ^ (-E).toNat = g at *
 apply Nat.lt_of_mul_lt_mul_right (a := c * e)
 calc D * d * f * (c * e) = D * f * (c * d * e) := by ac_rfl
  _ = D * a * f * b := by rw [← hc]; ac_rfl
  _ < e * g * b := Nat.mul_lt_mul_of_pos_right h hp3
  _ ≤ e * g * b * c := Nat.le_mul_of_pos_right _ hp1
  _ = b * g * (c * e) := by ac_rfl
theorem OnAt.rel {B D : Nat} {E : Int} {w wr : World} {z : Int} (h : OnAt B D E w wr z) : OnR B D E w wr z := by
 obtain ⟨es, g, q, h1, _⟩ := h.out
 exact ⟨es, g, q, h1⟩
theorem On.drewN {B D : Nat} {E : Int} {w wr : World} {es : List Nat} {g : Nat → Value} {q z : Int} (h : On B D E w wr es g q z) (n : Nat) : On B D E w (wr.drewN n) es g q z :=
 ⟨h.arr.drewN n, h.dec, h.top, h.val, pw_below_drewN h.bel n, h.fine⟩
end Go.Proofs.YtkjpelgdppmbjaaGreatDoor.SF
namespace Go.Proofs.YtkjpelgdppmbjaaGreatDoor.PN
open CQ Go.Proofs.YtkjpelgdppmbjaaGreatDoor.US

theorem or_bit (q s : Nat) (hs : s ≤ 1) : q ||| s = 2 * (q / 2) + (if q % 2 = 1 ∨ s = 1 then 1 else 0) := by
 have e : q = 2 ^ 1 * (q / 2) + q % 2 := by have := Nat.div_add_mod q 2; omega
 have h2 : q % 2 < 2 := Nat.mod_lt _ (by omega)
 generalize q % 2 = b at *
 generalize q / 2 = a at *
 subst e
 have hb : b = 0 ∨ b = 1 := by omega
 have hs2 : s = 0 ∨ s = 1 := by omega
 rcases hb with rfl | rfl <;> rcases hs2 with rfl | rfl
 ·simp
 ·rw [Nat.add_zero, ← Nat.two_pow_add_eq_or_of_lt (i := 1) (b := 1) (by omega)]; simp
 ·simp
 ·rw [Nat.two_pow_add_eq_or_of_lt (i := 1) (b := 1) (by omega), Nat.or_assoc, Nat.or_self, ← Nat.two_pow_add_eq_or_of_lt (i := 1) (b := 1) (by omega)]; simp
theorem unr_same {A B C D : Nat} (hB : 0 < B) (hD : 0 < D) (h : A * D = C * B) : unr A B = unr C D := by
 have h1 : A / B = C / D := by
  rw [← Nat.mul_div_mul_right A B hD, ← Nat.mul_div_mul_right C D hB, h, Nat.mul_comm B D]
 have h2 : A % B = 0 ↔ C % D = 0 := by
  have e1 : A * D % (B * D) = A % B * D := Nat.mul_mod_mul_right _ _ _
  have e2 : C * B % (D * B) = C % D * B := Nat.mul_mod_mul_right _ _ _
  rw [h, Nat.mul_comm B D, e2] at e1
  constructor
  ·intro h0; rw [h0, Nat.zero_mul] at e1; rcases Nat.mul_eq_zero.1 e1 with h | h <;> omega
  ·intro h0; rw [h0, Nat.zero_mul] at e1; rcases Nat.mul_eq_zero.1 e1.symm with h | h <;> omega
 unfold unr
 rw [h1]
 by_cases h0 : A % B = 0
 ·rw [if_pos h0, if_pos (h2.1 h0)]
 ·rw [if_neg h0, if_neg (fun h => h0 (h2.2 h))]
theorem unr_rne (N M : Nat) (hM : 0 < M) : (unr (4 * N) M + 1 + unr (4 * N) M / 4 % 2) / 4 = rneQ N M := by
 have h1 := Nat.div_add_mod N M
 have h2 := Nat.mod_lt N hM
 generalize hn : N / M = n at *
 generalize hr : N % M = r at *
 obtain ⟨t, ht1, ht2⟩ : ∃ t, t * M ≤ 4 * r ∧ 4 * r < (t + 1) * M := ⟨4 * r / M, Nat.div_mul_le_self _ _, by
  rw [Nat.mul_comm (4 * r / M + 1) M]; exact Nat.lt_mul_div_succ (4 * r) hM⟩
 have ht : t < 4 := by
  apply Nat.lt_of_mul_lt_mul_right (a := M)
  omega
 have hq : 4 * N / M = 4 * n + t := by
  apply Nat.div_eq_of_lt_le
  ·rw [Nat.add_mul, ← h1]
   have : 4 * n * M = 4 * (M * n) := by ac_rfl
   omega
  ·rw [← h1, Nat.add_assoc, Nat.add_mul]
   have : 4 * n * M = 4 * (M * n) := by ac_rfl
   omega
 have hmod : 4 * N % M = 0 ↔ 4 * r = t * M := by
  have h3 := Nat.div_add_mod (4 * N) M
  rw [hq, ← h1] at h3
  have e : M * (4 * n + t) = 4 * (M * n) + t * M := by rw [Nat.mul_add, Nat.mul_comm M t]; congr 1; ac_rfl
  rw [h1] at h3
  omega
 have hu : unr (4 * N) M = 4 * n + (if 4 * r = t * M then t else 2 * (t / 2) + 1) := by
  unfold unr
  rw [hq]
  by_cases h0 : 4 * r = t * M
  ·rw [if_pos (hmod.2 h0), if_pos h0, Nat.or_zero]
  ·rw [if_neg (fun h => h0 (hmod.1 h)), if_neg h0, or_bit _ 1 (by omega), if_pos (.inr rfl)]; omega
 have hrne : rneQ N M = n + if M < 2 * r ∨ (M = 2 * r ∧ n % 2 = 1) then 1 else 0 := by unfold rneQ; rw [hn, hr]
 rw [hu, hrne]
 clear hu hrne hmod hq hn hr h1
 have ht' : t = 0 ∨ t = 1 ∨ t = 2 ∨ t = 3 := by omega
 have hn2 : n % 2 = 0 ∨ n % 2 = 1 := by omega
 rcases ht' with rfl | rfl | rfl | rfl <;> split <;> split <;> omega
end Go.Proofs.YtkjpelgdppmbjaaGreatDoor.PN
namespace Go.Proofs.YtkjpelgdppmbjaaGreatDoor.PN
open CQ US Go.Proofs.YtkjpelgdppmbjaaGreatDoor.SF


end Go.Proofs.YtkjpelgdppmbjaaGreatDoor.PN
namespace Go.Proofs.YtkjpelgdppmbjaaGreatDoor.SF
open Go.RowKit YtkjpelgdppmbjaaGreatDoorW.PrintWords CB CQ Go.Proofs.YtkjpelgdppmbjaaGreatDoor.PN

structure Pow10 (w : World) (B : Nat) : Prop where mk ::
 blk : 13 < B
 out : ∀ p : Int, -348 ≤ p → p ≤ 347 → ∃ hi lo : Nat, w.cell? ⟨13, (p + 348).toNat * 2, none⟩ = some (.int .u64 hi) ∧ w.cell? ⟨13, (p + 348).toNat * 2 + 1, none⟩ = some (.int .u64 lo) ∧ hi < 18446744073709551616 ∧ lo < 18446744073709551616 ∧ (hi : Int) * 18446744073709551616 - lo = US.pm p
theorem Pow10.below {w w' : World} {B : Nat} (h : Pow10 w B) (hb : Below B w w') : Pow10 w' B := by
 refine ⟨h.blk, fun p h1 h2 => ?_⟩
 obtain ⟨hi, lo, a1, a2, a3⟩ := h.out p h1 h2
 exact ⟨hi, lo, (hb.cell (p := ⟨_, _, none⟩) h.blk).trans a1, (hb.cell (p := ⟨_, _, none⟩) h.blk).trans a2, a3⟩
theorem pow_int (n : Int) (h : 0 ≤ n) : 2 ^ (n + 1).toNat = 2 ^ n.toNat * 2 := by
 rw [← Nat.pow_succ]; congr 1; omega
theorem nearE_nil {A B : Nat} (h : A * 2 ^ (1075 : Int).toNat < B) : NearE A B 0 0 := by
 have e := pow_int 1074 (by omega)
 rw [show (1074 + 1 : Int) = 1075 from rfl] at e
 rw [e] at h
 have e1 : (0 + 1074 - ((0 : Nat) : Int)).toNat = (1074 : Int).toNat := rfl
 have e2 : (((0 : Nat) : Int) - (0 + 1074)).toNat = 0 := rfl
 refine nearE_of 0 ?_ (fun h => absurd rfl h) ?_
 ·rw [e1, e2, Nat.pow_zero, Nat.mul_one]
  generalize 2 ^ (1074 : Int).toNat = K at *
  rw [← Nat.mul_assoc] at h
  omega
 ·rw [e1, e2, Nat.pow_zero, Nat.mul_one]
  generalize 2 ^ (1074 : Int).toNat = K at *
  rw [← Nat.mul_assoc] at h
  rw [rneQ_nil (by omega), Nat.zero_mul, Nat.zero_add, Nat.min_eq_left (Nat.zero_le _)]
end Go.Proofs.YtkjpelgdppmbjaaGreatDoor.SF
namespace Go.Proofs.YtkjpelgdppmbjaaGreatDoor.XF
open Ieee CR CF CG CH CV Go.Proofs.YtkjpelgdppmbjaaGreatDoor.CQ

def Whole (x N : Nat) : Prop := x < 9223372036854775808 ∧ ∃ (m : Nat) (i : Int), double.read x = .number false m i ∧ m * 2 ^ i.toNat = N * 2 ^ (-i).toNat
end Go.Proofs.YtkjpelgdppmbjaaGreatDoor.XF
namespace Go.Proofs.YtkjpelgdppmbjaaGreatDoor.SF
open Go.RowKit YtkjpelgdppmbjaaGreatDoorW.PrintWords CB CQ Go.Proofs.YtkjpelgdppmbjaaGreatDoor.XF

structure Tens (w : World) (B : Nat) : Prop where mk ::
 out : ∃ ab ao ac : Nat, ab < B ∧ 11 < B ∧ w.cell? ⟨11, 0, none⟩ = some (.slice (some ⟨ab, ao, none⟩) 23 ac) ∧ ∀ n, n ≤ 22 → ∃ y, w.cell? ⟨ab, ao + n, none⟩ = some (.float .f64 y) ∧ Whole y (10 ^ n)
theorem Tens.below {w w' : World} {B : Nat} (h : Tens w B) (hb : Below B w w') : Tens w' B := by
 obtain ⟨ab, ao, ac, h1, h2, h3, h4⟩ := h
 refine ⟨ab, ao, ac, h1, h2, (hb.cell (p := ⟨_, 0, none⟩) h2).trans h3, fun n hn => ?_⟩
 obtain ⟨y, a1, a2⟩ := h4 n hn
 exact ⟨y, (hb.cell (p := ⟨ab, _, none⟩) h1).trans a1, a2⟩
end Go.Proofs.YtkjpelgdppmbjaaGreatDoor.SF
namespace Go.Proofs.YtkjpelgdppmbjaaGreatDoor.PN
open CQ Go.Proofs.YtkjpelgdppmbjaaGreatDoor.SF

theorem rneQ_up {A C B : Nat} (hB : 0 < B) (h : A ≤ C) : rneQ A B ≤ rneQ C B := by
 have h1 := Nat.div_add_mod A B
 have h2 := Nat.mod_lt A hB
 have h3 := Nat.div_add_mod C B
 have h4 := Nat.mod_lt C hB
 have h5 : A / B ≤ C / B := Nat.div_le_div_right h
 unfold rneQ
 rcases Nat.eq_or_lt_of_le h5 with h6 | h6
 ·rw [← h6] at h3 ⊢
  have h7 : A % B ≤ C % B := by omega
  split
  ·rename_i hc
   rw [if_pos (by omega)]; omega
  ·omega
 ·split <;> omega
theorem rneQ_mono {A B C D : Nat} (hB : 0 < B) (hD : 0 < D) (h : A * D ≤ C * B) : rneQ A B ≤ rneQ C D := by
 rw [← rneQ_scale A B D hD, ← rneQ_scale C D B hB, Nat.mul_comm D B]
 exact rneQ_up (Nat.mul_pos hB hD) h
theorem nearU_mono {A B C D v w : Nat} (hB : 0 < B) (hD : 0 < D) (h : A * D ≤ C * B) (hv : NearU A B v) (hw : NearU C D w) : v ≤ w := by
 obtain ⟨j, a1, a2, rfl⟩ := hv
 obtain ⟨k, b1, b2, rfl⟩ := hw
 have hp : ∀ n, 0 < 2 ^ n := fun n => Nat.pow_pos (by omega)
 have hBj : 0 < B * 2 ^ j := Nat.mul_pos hB (hp j)
 have hDk : 0 < D * 2 ^ k := Nat.mul_pos hD (hp k)
 have hmin : ∀ x y : Nat, x ≤ y → min x 9218868437227405312 ≤ min y 9218868437227405312 := fun x y hxy => by omega
 apply hmin
 rcases Nat.lt_trichotomy j k with hjk | hjk | hjk
 ·have h1 : rneQ A (B * 2 ^ j) ≤ 9007199254740992 := rneQ_le hBj (Nat.le_of_lt a1)
  have h2 : 4503599627370496 ≤ rneQ C (D * 2 ^ k) := rneQ_ge hDk (b2 (by omega))
  have h3 : (j + 1) * 4503599627370496 ≤ k * 4503599627370496 := Nat.mul_le_mul_right _ hjk
  omega
 ·subst hjk
  have h1 : rneQ A (B * 2 ^ j) ≤ rneQ C (D * 2 ^ j) := rneQ_mono hBj hDk (by
   calc A * (D * 2 ^ j) = A * D * 2 ^ j := by ac_rfl
    _ ≤ C * B * 2 ^ j := Nat.mul_le_mul_right _ h
    _ = _ := by ac_rfl)
  omega
 ·exfalso
  have h1 := a2 (by omega)
  have h2 : (2 : Nat) ^ (k + 1) ≤ 2 ^ j := Nat.pow_le_pow_right (by omega) hjk
  have h3 : C * B < 9007199254740992 * (D * 2 ^ k) * B := Nat.mul_lt_mul_of_pos_right b1 hB
  have h4 : 4503599627370496 * (B * 2 ^ (k + 1)) * D ≤ 4503599627370496 * (B * 2 ^ j) * D := Nat.mul_le_mul_right _ (Nat.mul_le_mul_left _ (Nat.mul_le_mul_left _ h2))
  have h5 : 4503599627370496 * (B * 2 ^ j) * D ≤ A * D := Nat.mul_le_mul_right _ h1
  have h6 : 9007199254740992 * (D * 2 ^ k) * B = 4503599627370496 * (B * 2 ^ (k + 1)) * D := by
   rw [Nat.pow_succ, show (9007199254740992 : Nat) = 4503599627370496 * 2 by decide]; ac_rfl
  omega
theorem nearE_mono {A B C D v w : Nat} (hB : 0 < B) (hD : 0 < D) (h : A * D ≤ C * B) (hv : NearE A B 0 v) (hw : NearE C D 0 w) : v ≤ w := by
 unfold NearE at hv hw
 refine nearU_mono (Nat.mul_pos hB (Nat.pow_pos (by omega))) (Nat.mul_pos hD (Nat.pow_pos (by omega))) ?_ hv hw
 generalize 2 ^ (0 + 1074 : Int).toNat = x
 generalize 2 ^ (-(0 + 1074) : Int).toNat = y
 calc A * x * (D * y) = A * D * (x * y) := by ac_rfl
  _ ≤ C * B * (x * y) := Nat.mul_le_mul_right _ h
  _ = _ := by ac_rfl
theorem nearE_any {A B : Nat} (hB : 0 < B) : ∃ w, NearE A B 0 w := nearU_any (Nat.mul_pos hB (Nat.pow_pos (by omega)))
theorem nearE_between {A B X Y C D u : Nat} (hB : 0 < B) (hY : 0 < Y) (hD : 0 < D) (h1 : A * Y ≤ X * B) (h2 : X * D ≤ C * Y) (hv : NearE A B 0 u) (hw : NearE C D 0 u) : NearE X Y 0 u := by
 obtain ⟨w, h⟩ := nearE_any (A := X) hY
 have e1 := nearE_mono hB hY h1 hv h
 have e2 := nearE_mono hY hD h2 h hw
 obtain rfl : w = u := Nat.le_antisymm e2 e1
 exact h
end Go.Proofs.YtkjpelgdppmbjaaGreatDoor.PN
