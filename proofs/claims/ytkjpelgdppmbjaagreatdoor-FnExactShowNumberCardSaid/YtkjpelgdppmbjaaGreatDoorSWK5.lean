/- Walks of the library's number reading: what the first figures tell of all. -/
import Derived.Test.YtkjpelgdppmbjaaGreatDoorSWZip
import Derived.Test.YtkjpelgdppmbjaaGreatDoorSWK4
import Derived.Test.YtkjpelgdppmbjaaGreatDoorSWK3
import Derived.Test.YtkjpelgdppmbjaaGreatDoorSWK2
namespace Go.Proofs.YtkjpelgdppmbjaaGreatDoor.SF
open Go.RowKit YtkjpelgdppmbjaaGreatDoorW.PrintWords CB CQ Go.Proofs.YtkjpelgdppmbjaaGreatDoor.PN

theorem nearE_ten {M t u : Nat} {p E : Int} (h : p = E + t) : NearE (M * 10 ^ p.toNat) (10 ^ (-p).toNat) 0 u ↔ NearE (M * 10 ^ t * 10 ^ E.toNat) (10 ^ (-E).toNat) 0 u := by
 refine nearE_same (Nat.pow_pos (by omega)) (Nat.pow_pos (by omega)) 0 0 rfl ?_
 rw [Nat.pow_zero, Nat.mul_one, Nat.mul_one]
 have e : 10 ^ p.toNat * 10 ^ (-E).toNat = 10 ^ t * 10 ^ E.toNat * 10 ^ (-p).toNat := by
  rw [← Nat.pow_add, ← Nat.pow_add, ← Nat.pow_add]; congr 1; omega
 calc M * 10 ^ p.toNat * 10 ^ (-E).toNat = M * (10 ^ p.toNat * 10 ^ (-E).toNat) := by ac_rfl
  _ = _ := by rw [e]; ac_rfl

structure Read (D M t : Nat) (E p : Int) (T : Bool) : Prop where
 m1 : 1 ≤ M
 m2 : M < 10000000000000000000
 p : p = E + t
 lo : M * 10 ^ t ≤ D
 hi : D < (M + 1) * 10 ^ t
 just : T = false → D = M * 10 ^ t
 many : T = true → 1000000000000000000 ≤ M
theorem ten_pos (n : Nat) : 0 < 10 ^ n := Nat.pow_pos (by omega)
theorem Read.low {D M t : Nat} {E p : Int} {T : Bool} (h : Read D M t E p T) : (M * 10 ^ p.toNat) * 10 ^ (-E).toNat ≤ (D * 10 ^ E.toNat) * 10 ^ (-p).toNat := by
 have e : 10 ^ p.toNat * 10 ^ (-E).toNat = 10 ^ t * 10 ^ E.toNat * 10 ^ (-p).toNat := by
  have := h.p
  rw [← Nat.pow_add, ← Nat.pow_add, ← Nat.pow_add]; congr 1; omega
 calc M * 10 ^ p.toNat * 10 ^ (-E).toNat = M * (10 ^ p.toNat * 10 ^ (-E).toNat) := by ac_rfl
  _ = M * 10 ^ t * (10 ^ E.toNat * 10 ^ (-p).toNat) := by rw [e]; ac_rfl
  _ ≤ D * (10 ^ E.toNat * 10 ^ (-p).toNat) := Nat.mul_le_mul_right _ h.lo
  _ = _ := by ac_rfl
theorem Read.high {D M t : Nat} {E p : Int} {T : Bool} (h : Read D M t E p T) : (D * 10 ^ E.toNat) * 10 ^ (-p).toNat < ((M + 1) * 10 ^ p.toNat) * 10 ^ (-E).toNat := by
 have e : 10 ^ p.toNat * 10 ^ (-E).toNat = 10 ^ t * 10 ^ E.toNat * 10 ^ (-p).toNat := by
  have := h.p
  rw [← Nat.pow_add, ← Nat.pow_add, ← Nat.pow_add]; congr 1; omega
 have hp : 0 < 10 ^ E.toNat * 10 ^ (-p).toNat := Nat.mul_pos (ten_pos _) (ten_pos _)
 calc D * 10 ^ E.toNat * 10 ^ (-p).toNat = D * (10 ^ E.toNat * 10 ^ (-p).toNat) := by ac_rfl
  _ < (M + 1) * 10 ^ t * (10 ^ E.toNat * 10 ^ (-p).toNat) := Nat.mul_lt_mul_of_pos_right h.hi hp
  _ = (M + 1) * (10 ^ t * 10 ^ E.toNat * 10 ^ (-p).toNat) := by ac_rfl
  _ = _ := by rw [← e]; ac_rfl
@[irreducible] def T346 : Nat := 10 ^ 346
@[irreducible] def P1075 : Nat := 2 ^ (1075 : Int).toNat
theorem T346_le (k : Nat) (h : 346 ≤ k) : T346 ≤ 10 ^ k := by unfold T346; exact up_ten 346 k h
theorem small_lt : 10000000000000000000 * P1075 < T346 := by decide +kernel
theorem P1075_eq : 2 ^ (1075 : Int).toNat = P1075 := by unfold P1075; exact Eq.refl _
theorem Read.small {D M t : Nat} {E p : Int} {T : Bool} (h : Read D M t E p T) (hp : p < -345) : NearE (D * 10 ^ E.toNat) (10 ^ (-E).toNat) 0 0 := by
 refine nearE_nil ?_
 rw [P1075_eq]
 have h1 := h.high
 rw [show p.toNat = 0 by omega, Nat.pow_zero, Nat.mul_one] at h1
 have h2 := T346_le (-p).toNat (by omega)
 have h3 := small_lt
 have hm := h.m2
 generalize 10 ^ (-p).toNat = K at *
 have hK : 0 < K := by omega
 apply Nat.lt_of_mul_lt_mul_right (a := K)
 generalize D * 10 ^ E.toNat = A at *
 generalize 10 ^ (-E).toNat = B at *
 have hP : 0 < P1075 := by decide +kernel
 calc A * P1075 * K = A * K * P1075 := by ac_rfl
  _ < (M + 1) * B * P1075 := Nat.mul_lt_mul_of_pos_right h1 hP
  _ ≤ 10000000000000000000 * B * P1075 := Nat.mul_le_mul_right _ (Nat.mul_le_mul_right _ hm)
  _ = B * (10000000000000000000 * P1075) := by ac_rfl
  _ ≤ B * K := Nat.mul_le_mul_left _ (by omega)

theorem nearE_le {A B w : Nat} (h : NearE A B 0 w) : w ≤ 9218868437227405312 := by
 unfold NearE NearU at h
 obtain ⟨j, _, _, h3⟩ := h
 rw [h3]; exact Nat.min_le_right _ _
@[irreducible] def edge : Nat := 18014398509481983 * 2 ^ (970 : Int).toNat
theorem edge_word : Ieee.double.nearest false 18014398509481983 970 = 9218868437227405312 := by decide +kernel
theorem edge_inf {A B : Nat} (hB : 0 < B) (h : edge * B ≤ A) : NearE A B 0 9218868437227405312 := by
 obtain ⟨w, hw⟩ := nearE_any (A := A) hB
 have h1 := near_nearE (M := 18014398509481983) (E := 970) (by omega)
 rw [edge_word] at h1
 have h2 : NearE edge 1 0 9218868437227405312 := by
  refine (nearE_same (A := 18014398509481983) (B := 1) (C := edge) (D := 1) (E := 970) (F := 0) (by omega) (by omega) 0 (970 : Int).toNat rfl ?_).1 h1
  unfold edge
  rw [Nat.pow_zero, Nat.mul_one, Nat.mul_one]
 have h3 := nearE_mono (by omega) hB (by rw [Nat.mul_one]; exact h) h2 hw
 obtain rfl : w = 9218868437227405312 := Nat.le_antisymm (nearE_le hw) h3
 exact hw
theorem edge_top : edge * 1000000000000000001 < top2 * 1000000000000000000 := by decide +kernel
@[irreducible] def T345 : Nat := 10 ^ 345
theorem T345_ge (k : Nat) (h : k ≤ 345) : 10 ^ k ≤ T345 := by unfold T345; exact up_ten k 345 h
theorem T345_lt : T345 ≤ 1000000000000000000 * T331 := by decide +kernel
theorem Read.num {D M t u v : Nat} {E p : Int} (h : Read D M t E p true) (hD : D < 10 ^ 60) (hp : -345 ≤ p) (h1 : NearE (M * 10 ^ p.toNat) (10 ^ (-p).toNat) 0 u) (h2 : NearE ((M + 1) * 10 ^ p.toNat) (10 ^ (-p).toNat) 0 v) (hne : u ≠ v) : Num D E := by
 have hm := h.many rfl
 have hlow := h.low
 have hhigh := h.high
 refine ⟨?_, hD, ?_, ?_⟩
 ·have : 1 * 1 ≤ M * 10 ^ t := Nat.mul_le_mul h.m1 (ten_pos t)
  have := h.lo
  omega
 ·rcases Nat.lt_or_ge (D * 10 ^ E.toNat) (top2 * 10 ^ (-E).toNat) with hlt | hge
  ·exact hlt
  ·exfalso
   apply hne
   have hE := ten_pos (-E).toNat
   have hP := ten_pos (-p).toNat
   generalize 10 ^ (-E).toNat = B at *
   generalize D * 10 ^ E.toNat = A at *
   generalize 10 ^ (-p).toNat = Y at *
   generalize 10 ^ p.toNat = X at *
   -- the first figures are as good as all
   have h3 : edge * Y ≤ M * X := by
    apply Nat.le_of_mul_le_mul_right (c := B * 1000000000000000001) ?_ (Nat.mul_pos hE (by omega))
    have h4 : top2 * B * Y ≤ (M + 1) * X * B := Nat.le_trans (Nat.mul_le_mul_right _ hge) (Nat.le_of_lt hhigh)
    have h5 : (M + 1) * 1000000000000000000 ≤ M * 1000000000000000001 := by omega
    calc edge * Y * (B * 1000000000000000001) = edge * 1000000000000000001 * (Y * B) := by ac_rfl
     _ ≤ top2 * 1000000000000000000 * (Y * B) := Nat.mul_le_mul_right _ (Nat.le_of_lt edge_top)
     _ = top2 * B * Y * 1000000000000000000 := by ac_rfl
     _ ≤ (M + 1) * X * B * 1000000000000000000 := Nat.mul_le_mul_right _ h4
     _ = (M + 1) * 1000000000000000000 * (X * B) := by ac_rfl
     _ ≤ M * 1000000000000000001 * (X * B) := Nat.mul_le_mul_right _ h5
     _ = _ := by ac_rfl
   have h6 := edge_inf hP h3
   have h7 := edge_inf (A := (M + 1) * X) hP (Nat.le_trans h3 (Nat.mul_le_mul_right _ (by omega)))
   rw [nearE_one h1 h6, nearE_one h2 h7]
 ·have h3 : 10 ^ (-p).toNat ≤ M * 10 ^ p.toNat * T331 := by
   have hx : 1 ≤ 10 ^ p.toNat := ten_pos _
   have h4 : 10 ^ (-p).toNat ≤ T345 := T345_ge _ (by omega)
   have h5 : M * 1 * T331 ≤ M * 10 ^ p.toNat * T331 := Nat.mul_le_mul_right _ (Nat.mul_le_mul_left _ hx)
   have h6 : 1000000000000000000 * T331 ≤ M * T331 := Nat.mul_le_mul_right _ hm
   rw [Nat.mul_one] at h5
   exact Nat.le_trans h4 (Nat.le_trans T345_lt (Nat.le_trans h6 h5))
  apply Nat.le_of_mul_le_mul_right (c := 10 ^ (-p).toNat) ?_ (ten_pos _)
  calc 10 ^ (-E).toNat * 10 ^ (-p).toNat ≤ 10 ^ (-E).toNat * (M * 10 ^ p.toNat * T331) := Nat.mul_le_mul_left _ h3
   _ = M * 10 ^ p.toNat * 10 ^ (-E).toNat * T331 := by ac_rfl
   _ ≤ D * 10 ^ E.toNat * 10 ^ (-p).toNat * T331 := Nat.mul_le_mul_right _ hlow
   _ = _ := by ac_rfl
end Go.Proofs.YtkjpelgdppmbjaaGreatDoor.SF
namespace Go.Proofs.YtkjpelgdppmbjaaGreatDoor.SF
open Go.RowKit YtkjpelgdppmbjaaGreatDoorW.PrintWords CB CQ PN CH Go.Proofs.YtkjpelgdppmbjaaGreatDoor.XF

@[irreducible] def T310 : Nat := 10 ^ 310
theorem T310_le (k : Nat) (h : 310 ≤ k) : T310 ≤ 10 ^ k := by unfold T310; exact up_ten 310 k h
theorem T310_gt : top2 < T310 := by decide +kernel
theorem T331_up (k : Nat) (h : 331 ≤ k) : T331 ≤ 10 ^ k := by unfold T331; exact up_ten 331 k h
theorem Num.point {D : Nat} {E dp : Int} {ds : List Nat} (hn : Num D E) (hten : ∀ i, ds.getD i 0 < 10) (h0 : ds.getD 0 0 ≠ 0) (hv : Val ds dp D 0 E) : -330 ≤ dp ∧ dp ≤ 310 := by
 have e0 : (0 : Int).toNat = 0 := rfl
 have e1 : (-(0 : Int)).toNat = 0 := rfl
 constructor
 ·rcases Int.lt_or_le dp (-330) with h | h
  ·exfalso
   have h1 := val_lt hten h0 hv 0 (-dp).toNat (by omega)
   rw [e0, e1, Nat.pow_zero, Nat.mul_one, Nat.one_mul, Nat.one_mul] at h1
   have h2 := T331_up (-dp).toNat (by omega)
   have h3 : D * 10 ^ E.toNat * T331 ≤ D * 10 ^ E.toNat * 10 ^ (-dp).toNat := Nat.mul_le_mul_left _ h2
   exact absurd (Nat.lt_of_le_of_lt (Nat.le_trans hn.lo h3) h1) (Nat.lt_irrefl _)
  ·exact h
 ·rcases Int.lt_or_le 310 dp with h | h
  ·exfalso
   have h1 := val_ge h0 hv (dp - 1).toNat 0 (by omega)
   rw [e0, e1, Nat.pow_zero, Nat.one_mul, Nat.mul_one, Nat.mul_one] at h1
   have h2 := T310_le (dp - 1).toNat (by omega)
   have h3 : T310 * 10 ^ (-E).toNat ≤ 10 ^ (dp - 1).toNat * 10 ^ (-E).toNat := Nat.mul_le_mul_right _ h2
   have h4 : top2 * 10 ^ (-E).toNat ≤ T310 * 10 ^ (-E).toNat := Nat.mul_le_mul_right _ (Nat.le_of_lt T310_gt)
   exact absurd (Nat.lt_of_le_of_lt (Nat.le_trans h4 (Nat.le_trans h3 h1)) hn.hi) (Nat.lt_irrefl _)
  ·exact h
end Go.Proofs.YtkjpelgdppmbjaaGreatDoor.SF
namespace Go.Proofs.YtkjpelgdppmbjaaGreatDoor.SF
open Go.RowKit YtkjpelgdppmbjaaGreatDoorW.PrintWords CB CQ Go.Proofs.YtkjpelgdppmbjaaGreatDoor.PN


structure SetAt (w : World) (B : Nat) (w' : World) (ds : List Nat) (dp : Int) : Prop where mk ::
 out : ∃ f, Arr w' B f ∧ Dec f ds dp false false
 bel : Below w.heap.size w w'

structure Tabs (w : World) (B : Nat) : Prop where mk ::
 info : Info64 w B
 tens : Tens w B
 pow : Pow10 w B
 cheats : Cheats w B
 tab : Tab9 w B
 oblk : 4 < B
 opt : w.cell? ⟨4, 0, none⟩ = some (.bool true)
theorem Tabs.below {w w' : World} {B : Nat} (h : Tabs w B) (hb : Below B w w') : Tabs w' B :=
 ⟨h.info.below hb, h.tens.below hb, h.pow.below hb, h.cheats.below hb, h.tab.below hb, h.oblk, (hb.cell (p := ⟨_, 0, none⟩) h.oblk).trans h.opt⟩
theorem Info64.up {w : World} {B C : Nat} (h : Info64 w B) (hc : B ≤ C) : Info64 w C := ⟨Nat.lt_of_lt_of_le h.blk hc, h.mant, h.exp, h.bias⟩
theorem Tab9.up {w : World} {B C : Nat} (h : Tab9 w B) (hc : B ≤ C) : Tab9 w C := by
 obtain ⟨tb, tq, tc, h1, h2, h3⟩ := h
 exact ⟨tb, tq, tc, by omega, by omega, h3⟩
theorem Cheats.up {w : World} {B C : Nat} (h : Cheats w B) (hc : B ≤ C) : Cheats w C := by
 obtain ⟨lb, lo, lc, h1, h2, h3⟩ := h
 exact ⟨lb, lo, lc, by omega, by omega, h3⟩

structure Text (s : ByteArray) (n : Nat) (E : Int) : Prop where mk ::
 read : Read (num (s.data.toList.take n)) (num (s.data.toList.take (min n 19))) (n - min n 19) E (E + (n - min n 19 : Nat)) (lost (s.data.toList.take n))
 few : num (s.data.toList.take n) < 10 ^ 60
 top : (digs s n).getD 0 0 ≠ 0
 ten : ∀ i, (digs s n).getD i 0 < 10
 len : (digs s n).length = n
end Go.Proofs.YtkjpelgdppmbjaaGreatDoor.SF
