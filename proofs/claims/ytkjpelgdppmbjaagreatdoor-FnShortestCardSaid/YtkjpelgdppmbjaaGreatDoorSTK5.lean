/- Walks of the library's number reading: what the first figures tell of all. -/
import Derived.Test.YtkjpelgdppmbjaaGreatDoorSTZip
import Derived.Test.YtkjpelgdppmbjaaGreatDoorSTK4
import Derived.Test.YtkjpelgdppmbjaaGreatDoorSTK3
import Derived.Test.YtkjpelgdppmbjaaGreatDoorSTK2
namespace Go.Proofs.YtkjpelgdppmbjaaGreatDoor.SF
open Go.RowKit YtkjpelgdppmbjaaGreatDoorW.PrintWords CB CQ PN

theorem numL_map (l : List UInt8) (a : Nat) : (l.map fun c => c.toNat - 48).foldl (fun a d => a * 10 + d) a = l.foldl (fun a c => a * 10 + (c.toNat - 48)) a := by
 induction l generalizing a with
 | nil => rfl
 | cons c l ih => rw [List.map_cons, List.foldl_cons, List.foldl_cons, ih]
theorem numL_digs (s : ByteArray) (n : Nat) : numL (digs s n) = num (s.data.toList.take n) := numL_map _ 0
theorem num_app (l m : List UInt8) : num (l ++ m) = num l * 10 ^ m.length + num m := by
 unfold num
 rw [List.foldl_append, num_from]; rfl
theorem num_zeros (l : List UInt8) (h : l.any (fun c => c != 48) = false) : num l = 0 := by
 induction l with
 | nil => rfl
 | cons c l ih =>
  rw [List.any_cons, Bool.or_eq_false_iff] at h
  have hc : c = 48 := by simpa using h.1
  have := ih h.2
  rw [show c :: l = [c] ++ l from rfl, num_app, this, hc]
  show num [48] * _ + 0 = 0
  rw [show num [48] = 0 from rfl, Nat.zero_mul]
theorem num_split (l : List UInt8) (hd : ∀ c ∈ l, c.toNat ≤ 57) : ∃ r, num l = num (l.take (min l.length 19)) * 10 ^ (l.length - min l.length 19) + r ∧ r < 10 ^ (l.length - min l.length 19) ∧ (lost l = false → r = 0) := by
 have e : l = l.take 19 ++ l.drop 19 := (List.take_append_drop 19 l).symm
 have e2 : l.take (min l.length 19) = l.take 19 := by
  rcases Nat.le_total l.length 19 with h | h
  ·rw [Nat.min_eq_left h, List.take_length, List.take_of_length_le h]
  ·rw [Nat.min_eq_right h]
 have e3 : l.length - min l.length 19 = (l.drop 19).length := by rw [List.length_drop]; omega
 refine ⟨num (l.drop 19), ?_, ?_, fun h => num_zeros _ h⟩
 ·rw [e2, e3, ← num_app, List.take_append_drop]
 ·rw [e3]; exact num_lt _ (fun c hc => hd c (List.mem_of_mem_drop hc))
theorem nearE_ten {M t u : Nat} {p E : Int} (h : p = E + t) : NearE (M * 10 ^ p.toNat) (10 ^ (-p).toNat) 0 u ↔ NearE (M * 10 ^ t * 10 ^ E.toNat) (10 ^ (-E).toNat) 0 u := by
 refine nearE_same (Nat.pow_pos (by omega)) (Nat.pow_pos (by omega)) 0 0 rfl ?_
 rw [Nat.pow_zero, Nat.mul_one, Nat.mul_one]
 have e : 10 ^ p.toNat * 10 ^ (-E).toNat = 10 ^ t * 10 ^ E.toNat * 10 ^ (-p).toNat := by
  rw [← Nat.pow_add, ← Nat.pow_add, ← Nat.pow_add]; congr 1; omega
 calc M * 10 ^ p.toNat * 10 ^ (-E).toNat = M * (10 ^ p.toNat * 10 ^ (-E).toNat) := by ac_rfl
  _ = _ := by rw [e]; ac_rfl

structure Read (D M t : Nat) (E p : Int) (T : Bool) : Prop where
 m1 : 1 ≤ M
 m2 : M < 10000000000000000000
 p : p = E + t
 lo : M * 10 ^ t ≤ D
 hi : D < (M + 1) * 10 ^ t
 just : T = false → D = M * 10 ^ t
 many : T = true → 1000000000000000000 ≤ M
theorem ten_pos (n : Nat) : 0 < 10 ^ n := Nat.pow_pos (by omega)
theorem Read.low {D M t : Nat} {E p : Int} {T : Bool} (h : Read D M t E p T) : (M * 10 ^ p.toNat) * 10 ^ (-E).toNat ≤ (D * 10 ^ E.toNat) * 10 ^ (-p).toNat := by
 have e : 10 ^ p.toNat * 10 ^ (-E).toNat = 10 ^ t * 10 ^ E.toNat * 10 ^ (-p).toNat := by
  have := h.p
  rw [← Nat.pow_add, ← Nat.pow_add, ← Nat.pow_add]; congr 1; omega
 calc M * 10 ^ p.toNat * 10 ^ (-E).toNat = M * (10 ^ p.toNat * 10 ^ (-E).toNat) := by ac_rfl
  _ = M * 10 ^ t * (10 ^ E.toNat * 10 ^ (-p).toNat) := by rw [e]; ac_rfl
  _ ≤ D * (10 ^ E.toNat * 10 ^ (-p).toNat) := Nat.mul_le_mul_right _ h.lo
  _ = _ := by ac_rfl
theorem Read.high {D M t : Nat} {E p : Int} {T : Bool} (h : Read D M t E p T) : (D * 10 ^ E.toNat) * 10 ^ (-p).toNat < ((M + 1) * 10 ^ p.toNat) * 10 ^ (-E).toNat := by
 have e : 10 ^ p.toNat * 10 ^ (-E).toNat = 10 ^ t * 10 ^ E.toNat * 10 ^ (-p).toNat := by
  have := h.p
  rw [← Nat.pow_add, ← Nat.pow_add, ← Nat.pow_add]; congr 1; omega
 have hp : 0 < 10 ^ E.toNat * 10 ^ (-p).toNat := Nat.mul_pos (ten_pos _) (ten_pos _)
 calc D * 10 ^ E.toNat * 10 ^ (-p).toNat = D * (10 ^ E.toNat * 10 ^ (-p).toNat) := by ac_rfl
  _ < (M + 1) * 10 ^ t * (10 ^ E.toNat * 10 ^ (-p).toNat) := Nat.mul_lt_mul_of_pos_right h.hi hp
  _ = (M + 1) * (10 ^ t * 10 ^ E.toNat * 10 ^ (-p).toNat) := by ac_rfl
  _ = _ := by rw [← e]; ac_rfl
theorem Read.between {D M t u : Nat} {E p : Int} {T : Bool} (h : Read D M t E p T) (h1 : NearE (M * 10 ^ p.toNat) (10 ^ (-p).toNat) 0 u) (h2 : NearE ((M + 1) * 10 ^ p.toNat) (10 ^ (-p).toNat) 0 u) : NearE (D * 10 ^ E.toNat) (10 ^ (-E).toNat) 0 u :=
 nearE_between (ten_pos _) (ten_pos _) (ten_pos _) h.low (Nat.le_of_lt h.high) h1 h2
theorem Read.same {D M t u : Nat} {E p : Int} (h : Read D M t E p false) (h1 : NearE (M * 10 ^ p.toNat) (10 ^ (-p).toNat) 0 u) : NearE (D * 10 ^ E.toNat) (10 ^ (-E).toNat) 0 u := by
 rw [h.just rfl]; exact (nearE_ten h.p).1 h1
@[irreducible] def T311 : Nat := 10 ^ 311
theorem T311_le (k : Nat) (h : 311 ≤ k) : T311 ≤ 10 ^ k := by unfold T311; exact up_ten 311 k h
theorem top_lt : top2 < T311 := by decide +kernel
theorem Read.great {D M t : Nat} {E p : Int} {T : Bool} (h : Read D M t E p T) (hp : 310 < p) : NearE (D * 10 ^ E.toNat) (10 ^ (-E).toNat) 0 9218868437227405312 := by
 refine nearE_inf (ten_pos _) ?_
 have h1 := h.low
 rw [show (-p).toNat = 0 by omega, Nat.pow_zero, Nat.mul_one] at h1
 refine Nat.le_trans (Nat.mul_le_mul_right _ ?_) h1
 have h2 := T311_le p.toNat (by omega)
 have h3 : 1 * 10 ^ p.toNat ≤ M * 10 ^ p.toNat := Nat.mul_le_mul_right _ h.m1
 have h4 := top_lt
 omega
@[irreducible] def T346 : Nat := 10 ^ 346
@[irreducible] def P1075 : Nat := 2 ^ (1075 : Int).toNat
theorem T346_le (k : Nat) (h : 346 ≤ k) : T346 ≤ 10 ^ k := by unfold T346; exact up_ten 346 k h
theorem small_lt : 10000000000000000000 * P1075 < T346 := by decide +kernel
theorem P1075_eq : 2 ^ (1075 : Int).toNat = P1075 := by unfold P1075; exact Eq.refl _
theorem Read.small {D M t : Nat} {E p : Int} {T : Bool} (h : Read D M t E p T) (hp : p < -345) : NearE (D * 10 ^ E.toNat) (10 ^ (-E).toNat) 0 0 := by
 refine nearE_nil ?_
 rw [P1075_eq]
 have h1 := h.high
 rw [show p.toNat = 0 by omega, Nat.pow_zero, Nat.mul_one] at h1
 have h2 := T346_le (-p).toNat (by omega)
 have h3 := small_lt
 have hm := h.m2
 generalize 10 ^ (-p).toNat = K at *
 have hK : 0 < K := by omega
 apply Nat.lt_of_mul_lt_mul_right (a := K)
 generalize D * 10 ^ E.toNat = A at *
 generalize 10 ^ (-E).toNat = B at *
 have hP : 0 < P1075 := by decide +kernel
 calc A * P1075 * K = A * K * P1075 := by ac_rfl
  _ < (M + 1) * B * P1075 := Nat.mul_lt_mul_of_pos_right h1 hP
  _ ≤ 10000000000000000000 * B * P1075 := Nat.mul_le_mul_right _ (Nat.mul_le_mul_right _ hm)
  _ = B * (10000000000000000000 * P1075) := by ac_rfl
  _ ≤ B * K := Nat.mul_le_mul_left _ (by omega)

theorem nearE_le {A B w : Nat} (h : NearE A B 0 w) : w ≤ 9218868437227405312 := by
 unfold NearE NearU at h
 obtain ⟨j, _, _, h3⟩ := h
 rw [h3]; exact Nat.min_le_right _ _
@[irreducible] def edge : Nat := 18014398509481983 * 2 ^ (970 : Int).toNat
theorem edge_word : Ieee.double.nearest false 18014398509481983 970 = 9218868437227405312 := by decide +kernel
theorem edge_inf {A B : Nat} (hB : 0 < B) (h : edge * B ≤ A) : NearE A B 0 9218868437227405312 := by
 obtain ⟨w, hw⟩ := nearE_any (A := A) hB
 have h1 := near_nearE (M := 18014398509481983) (E := 970) (by omega)
 rw [edge_word] at h1
 have h2 : NearE edge 1 0 9218868437227405312 := by
  refine (nearE_same (A := 18014398509481983) (B := 1) (C := edge) (D := 1) (E := 970) (F := 0) (by omega) (by omega) 0 (970 : Int).toNat rfl ?_).1 h1
  unfold edge
  rw [Nat.pow_zero, Nat.mul_one, Nat.mul_one]
 have h3 := nearE_mono (by omega) hB (by rw [Nat.mul_one]; exact h) h2 hw
 obtain rfl : w = 9218868437227405312 := Nat.le_antisymm (nearE_le hw) h3
 exact hw
theorem edge_top : edge * 1000000000000000001 < top2 * 1000000000000000000 := by decide +kernel
@[irreducible] def T345 : Nat := 10 ^ 345
theorem T345_ge (k : Nat) (h : k ≤ 345) : 10 ^ k ≤ T345 := by unfold T345; exact up_ten k 345 h
theorem T345_lt : T345 ≤ 1000000000000000000 * T331 := by decide +kernel
theorem Read.num {D M t u v : Nat} {E p : Int} (h : Read D M t E p true) (hD : D < 10 ^ 60) (hp : -345 ≤ p) (h1 : NearE (M * 10 ^ p.toNat) (10 ^ (-p).toNat) 0 u) (h2 : NearE ((M + 1) * 10 ^ p.toNat) (10 ^ (-p).toNat) 0 v) (hne : u ≠ v) : Num D E := by
 have hm := h.many rfl
 have hlow := h.low
 have hhigh := h.high
 refine ⟨?_, hD, ?_, ?_⟩
 ·have : 1 * 1 ≤ M * 10 ^ t := Nat.mul_le_mul h.m1 (ten_pos t)
  have := h.lo
  omega
 ·rcases Nat.lt_or_ge (D * 10 ^ E.toNat) (top2 * 10 ^ (-E).toNat) with hlt | hge
  ·exact hlt
  ·exfalso
   apply hne
   have hE := ten_pos (-E).toNat
   have hP := ten_pos (-p).toNat
   generalize 10 ^ (-E).toNat = B at *
   generalize D * 10 ^ E.toNat = A at *
   generalize 10 ^ (-p).toNat = Y at *
   generalize 10 ^ p.toNat = X at *
   -- the first figures are as good as all
   have h3 : edge * Y ≤ M * X := by
    apply Nat.le_of_mul_le_mul_right (c := B * 1000000000000000001) ?_ (Nat.mul_pos hE (by omega))
    have h4 : top2 * B * Y ≤ (M + 1) * X * B := Nat.le_trans (Nat.mul_le_mul_right _ hge) (Nat.le_of_lt hhigh)
    have h5 : (M + 1) * 1000000000000000000 ≤ M * 1000000000000000001 := by omega
    calc edge * Y * (B * 1000000000000000001) = edge * 1000000000000000001 * (Y * B) := by ac_rfl
     _ ≤ top2 * 1000000000000000000 * (Y * B) := Nat.mul_le_mul_right _ (Nat.le_of_lt edge_top)
     _ = top2 * B * Y * 1000000000000000000 := by ac_rfl
     _ ≤ (M + 1) * X * B * 1000000000000000000 := Nat.mul_le_mul_right _ h4
     _ = (M + 1) * 1000000000000000000 * (X * B) := by ac_rfl
     _ ≤ M * 1000000000000000001 * (X * B) := Nat.mul_le_mul_right _ h5
     _ = _ := by ac_rfl
   have h6 := edge_inf hP h3
   have h7 := edge_inf (A := (M + 1) * X) hP (Nat.le_trans h3 (Nat.mul_le_mul_right _ (by omega)))
   rw [nearE_one h1 h6, nearE_one h2 h7]
 ·have h3 : 10 ^ (-p).toNat ≤ M * 10 ^ p.toNat * T331 := by
   have hx : 1 ≤ 10 ^ p.toNat := ten_pos _
   have h4 : 10 ^ (-p).toNat ≤ T345 := T345_ge _ (by omega)
   have h5 : M * 1 * T331 ≤ M * 10 ^ p.toNat * T331 := Nat.mul_le_mul_right _ (Nat.mul_le_mul_left _ hx)
   have h6 : 1000000000000000000 * T331 ≤ M * T331 := Nat.mul_le_mul_right _ hm
   rw [Nat.mul_one] at h5
   exact Nat.le_trans h4 (Nat.le_trans T345_lt (Nat.le_trans h6 h5))
  apply Nat.le_of_mul_le_mul_right (c := 10 ^ (-p).toNat) ?_ (ten_pos _)
  calc 10 ^ (-E).toNat * 10 ^ (-p).toNat ≤ 10 ^ (-E).toNat * (M * 10 ^ p.toNat * T331) := Nat.mul_le_mul_left _ h3
   _ = M * 10 ^ p.toNat * 10 ^ (-E).toNat * T331 := by ac_rfl
   _ ≤ D * 10 ^ E.toNat * 10 ^ (-p).toNat * T331 := Nat.mul_le_mul_right _ hlow
   _ = _ := by ac_rfl
open CH XF

@[irreducible] def T310 : Nat := 10 ^ 310
theorem T310_le (k : Nat) (h : 310 ≤ k) : T310 ≤ 10 ^ k := by unfold T310; exact up_ten 310 k h
theorem T310_gt : top2 < T310 := by decide +kernel
theorem T331_up (k : Nat) (h : 331 ≤ k) : T331 ≤ 10 ^ k := by unfold T331; exact up_ten 331 k h
theorem Num.point {D : Nat} {E dp : Int} {ds : List Nat} (hn : Num D E) (hten : ∀ i, ds.getD i 0 < 10) (h0 : ds.getD 0 0 ≠ 0) (hv : Val ds dp D 0 E) : -330 ≤ dp ∧ dp ≤ 310 := by
 have e0 : (0 : Int).toNat = 0 := rfl
 have e1 : (-(0 : Int)).toNat = 0 := rfl
 constructor
 ·rcases Int.lt_or_le dp (-330) with h | h
  ·exfalso
   have h1 := val_lt hten h0 hv 0 (-dp).toNat (by omega)
   rw [e0, e1, Nat.pow_zero, Nat.mul_one, Nat.one_mul, Nat.one_mul] at h1
   have h2 := T331_up (-dp).toNat (by omega)
   have h3 : D * 10 ^ E.toNat * T331 ≤ D * 10 ^ E.toNat * 10 ^ (-dp).toNat := Nat.mul_le_mul_left _ h2
   exact absurd (Nat.lt_of_le_of_lt (Nat.le_trans hn.lo h3) h1) (Nat.lt_irrefl _)
  ·exact h
 ·rcases Int.lt_or_le 310 dp with h | h
  ·exfalso
   have h1 := val_ge h0 hv (dp - 1).toNat 0 (by omega)
   rw [e0, e1, Nat.pow_zero, Nat.one_mul, Nat.mul_one, Nat.mul_one] at h1
   have h2 := T310_le (dp - 1).toNat (by omega)
   have h3 : T310 * 10 ^ (-E).toNat ≤ 10 ^ (dp - 1).toNat * 10 ^ (-E).toNat := Nat.mul_le_mul_right _ h2
   have h4 : top2 * 10 ^ (-E).toNat ≤ T310 * 10 ^ (-E).toNat := Nat.mul_le_mul_right _ (Nat.le_of_lt T310_gt)
   exact absurd (Nat.lt_of_le_of_lt (Nat.le_trans h4 (Nat.le_trans h3 h1)) hn.hi) (Nat.lt_irrefl _)
  ·exact h
theorem cmp_same (a : Int) : compare a a = .eq := by
 show compareOfLessAndEq a a = .eq
 unfold compareOfLessAndEq
 rw [if_neg (by omega), if_pos rfl]
theorem cmp_less {a b : Int} (h : a < b) : compare a b = .lt := by
 show compareOfLessAndEq a b = .lt
 unfold compareOfLessAndEq
 rw [if_pos h]
theorem inf_nan (x : Nat) (h : x ≤ 9218868437227405312) : nanB x = false := by
 unfold nanB
 rw [Nat.mod_eq_of_lt (by omega)]
 exact decide_eq_false (by omega)
theorem order_words (x y : Nat) (hx : x ≤ 9218868437227405312) (hy : y ≤ 9218868437227405312) : (Ieee.double.order x y == some .eq) = decide (x = y) := by
 rw [order_eq x y (by omega) (by omega), if_neg (by rw [inf_nan x hx, inf_nan y hy]; decide)]
 have k1 : keyI x = x := if_neg (by omega)
 have k2 : keyI y = y := if_neg (by omega)
 rw [k1, k2]
 rcases Nat.lt_trichotomy x y with h | h | h
 ·rw [cmp_less (by omega), decide_eq_false (by omega)]; rfl
 ·subst h; rw [cmp_same, decide_eq_true rfl]; rfl
 ·rw [cmp_gt (by omega), decide_eq_false (by omega)]; rfl

set_option maxHeartbeats 2000000 in
set_option maxRecDepth 100000 in
theorem atof64_great (s : ByteArray) (M : Nat) (p : Int) (T : Bool) (w : World) (hM1 : 1 ≤ M) (hM2 : M < 10000000000000000000) (hp : 310 < p)
  (hsp : ∀ W, Calls Tryz.prog 174 #[.string s] W fun e w' => e = .returned (.tuple #[.float .f64 0, .int .i64 0, .bool false]) ∧ W = w')
  (hrd : ∀ W, Calls Tryz.prog 175 #[.string s] W fun e w' => e = .returned (.tuple #[.int .u64 M, .int .i64 p, .bool false, .bool T, .bool false, .int .i64 s.size, .bool true]) ∧ W = w')
  (hopt : w.cell? ⟨4, 0, none⟩ = some (.bool true)) :
  Calls Tryz.prog 160 #[.string s] w fun e w' => e = .returned (.tuple #[.float .f64 9218868437227405312, .int .i64 s.size, .iface 136 (.int .i64 1)]) ∧ Below w.heap.size w w' := by
 have HSP := Lib.hid hsp
 have HRD := Lib.hid hrd
 have hb := fun W => bool2u_calls false W
 have HB := Lib.hid hb
 have c0 : ((M : Int) == 0) = false := by rw [beq_eq_false_iff_ne]; omega
 have h2 := frombits_in 9218868437227405312 9218868437227405312 (by decide)
 have u5 : Go.bits .or .u64 0 9218868437227405312 = 9218868437227405312 := by decide
 clear hsp hrd hb
 go_enter Tryz.func160, Tryz.ntmps160
 go_wp2_with (first | (go_at_call 174; ((with_reducible refine (HSP.out _).mono ?_); rintro e w' ⟨rfl, rfl⟩)) | (go_at_call 175; ((with_reducible refine (HRD.out _).mono ?_); rintro e w' ⟨rfl, rfl⟩)) | (go_at_call 183; ((with_reducible refine (HB.out _).mono ?_); rintro e w' ⟨rfl, rfl⟩)))
 go_ret3
 exact ⟨rfl, by first | exact Below.refl _ _ | exact pw_below_drewN (Below.refl _ _) _⟩
set_option maxHeartbeats 2000000 in
set_option maxRecDepth 100000 in
theorem atof64_small (s : ByteArray) (M : Nat) (p : Int) (T : Bool) (w : World) (hM1 : 1 ≤ M) (hM2 : M < 10000000000000000000) (hp : p < -345) (hp2 : -10000 ≤ p)
  (hsp : ∀ W, Calls Tryz.prog 174 #[.string s] W fun e w' => e = .returned (.tuple #[.float .f64 0, .int .i64 0, .bool false]) ∧ W = w')
  (hrd : ∀ W, Calls Tryz.prog 175 #[.string s] W fun e w' => e = .returned (.tuple #[.int .u64 M, .int .i64 p, .bool false, .bool T, .bool false, .int .i64 s.size, .bool true]) ∧ W = w')
  (hopt : w.cell? ⟨4, 0, none⟩ = some (.bool true)) :
  Calls Tryz.prog 160 #[.string s] w fun e w' => e = .returned (.tuple #[.float .f64 0, .int .i64 s.size, .nilIface]) ∧ Below w.heap.size w w' := by
 have HSP := Lib.hid hsp
 have HRD := Lib.hid hrd
 have hb := fun W => bool2u_calls false W
 have HB := Lib.hid hb
 have c0 : ((M : Int) == 0) = false := by rw [beq_eq_false_iff_ne]; omega
 have h2 := frombits_in 0 0 (by decide)
 have u5 : Go.bits .or .u64 0 0 = 0 := by decide
 clear hsp hrd hb
 go_enter Tryz.func160, Tryz.ntmps160
 go_wp2_with (first | (go_at_call 174; ((with_reducible refine (HSP.out _).mono ?_); rintro e w' ⟨rfl, rfl⟩)) | (go_at_call 175; ((with_reducible refine (HRD.out _).mono ?_); rintro e w' ⟨rfl, rfl⟩)) | (go_at_call 183; ((with_reducible refine (HB.out _).mono ?_); rintro e w' ⟨rfl, rfl⟩)))
 go_ret3
 exact ⟨rfl, by first | exact Below.refl _ _ | exact pw_below_drewN (Below.refl _ _) _⟩
set_option maxHeartbeats 2000000 in
set_option maxRecDepth 100000 in
theorem atof64_exact (s : ByteArray) (M : Nat) (p : Int) (w : World) (hM1 : 1 ≤ M) (hM2 : M < 10000000000000000000) (hp1 : -345 ≤ p) (hp2 : p ≤ 310) (u : Nat)
  (hsp : ∀ W, Calls Tryz.prog 174 #[.string s] W fun e w' => e = .returned (.tuple #[.float .f64 0, .int .i64 0, .bool false]) ∧ W = w')
  (hrd : ∀ W, Calls Tryz.prog 175 #[.string s] W fun e w' => e = .returned (.tuple #[.int .u64 M, .int .i64 p, .bool false, .bool false, .bool false, .int .i64 s.size, .bool true]) ∧ W = w')
  (hex : Calls Tryz.prog 185 #[.int .u64 M, .int .i64 p, .bool false] w fun r w' => r = .returned (.tuple #[.float .f64 u, .bool true]) ∧ w = w')
  (hopt : w.cell? ⟨4, 0, none⟩ = some (.bool true)) :
  Calls Tryz.prog 160 #[.string s] w fun e w' => e = .returned (.tuple #[.float .f64 u, .int .i64 s.size, .nilIface]) ∧ Below w.heap.size w w' := by
 have HSP := Lib.hid hsp
 have HRD := Lib.hid hrd
 have HEX := Lib.hid hex
 have hb := fun W => bool2u_calls false W
 have HB := Lib.hid hb
 have c0 : ((M : Int) == 0) = false := by rw [beq_eq_false_iff_ne]; omega
 clear hsp hrd hb hex
 go_enter Tryz.func160, Tryz.ntmps160
 go_wp2_with (first | (go_at_call 174; ((with_reducible refine (HSP.out _).mono ?_); rintro e w' ⟨rfl, rfl⟩)) | (go_at_call 175; ((with_reducible refine (HRD.out _).mono ?_); rintro e w' ⟨rfl, rfl⟩)) | (go_at_call 185; ((with_reducible refine HEX.out.mono ?_); rintro e w' ⟨rfl, rfl⟩)) | (go_at_call 183; ((with_reducible refine (HB.out _).mono ?_); rintro e w' ⟨rfl, rfl⟩)))
 go_ret3
 exact ⟨rfl, by first | exact Below.refl _ _ | exact pw_below_drewN (Below.refl _ _) _⟩
set_option maxHeartbeats 2000000 in
set_option maxRecDepth 100000 in
theorem atof64_fast (s : ByteArray) (M : Nat) (p : Int) (w : World) (hM1 : 1 ≤ M) (hM2 : M < 10000000000000000000) (hp1 : -345 ≤ p) (hp2 : p ≤ 310) (x u : Nat) (ev : Value)
  (hsp : ∀ W, Calls Tryz.prog 174 #[.string s] W fun e w' => e = .returned (.tuple #[.float .f64 0, .int .i64 0, .bool false]) ∧ W = w')
  (hrd : ∀ W, Calls Tryz.prog 175 #[.string s] W fun e w' => e = .returned (.tuple #[.int .u64 M, .int .i64 p, .bool false, .bool false, .bool false, .int .i64 s.size, .bool true]) ∧ W = w')
  (hex : Calls Tryz.prog 185 #[.int .u64 M, .int .i64 p, .bool false] w fun r w' => r = .returned (.tuple #[.float .f64 x, .bool false]) ∧ w = w')
  (hpar : Calls Tryz.prog 186 #[.int .u64 M, .int .i64 p, .int .u64 0] w fun r w' => r = .returned (.tuple #[.float .f64 u, ev]) ∧ Below w.heap.size w w')
  (hopt : w.cell? ⟨4, 0, none⟩ = some (.bool true)) :
  Calls Tryz.prog 160 #[.string s] w fun e w' => e = .returned (.tuple #[.float .f64 u, .int .i64 s.size, ev]) ∧ Below w.heap.size w w' := by
 have HSP := Lib.hid hsp
 have HRD := Lib.hid hrd
 have HEX := Lib.hid hex
 have HPAR := Lib.hid hpar
 have hb := fun W => bool2u_calls false W
 have HB := Lib.hid hb
 have c0 : ((M : Int) == 0) = false := by rw [beq_eq_false_iff_ne]; omega
 clear hsp hrd hb hex hpar
 go_enter Tryz.func160, Tryz.ntmps160
 go_wp2_with (first | (go_at_call 174; ((with_reducible refine (HSP.out _).mono ?_); rintro e w' ⟨rfl, rfl⟩)) | (go_at_call 175; ((with_reducible refine (HRD.out _).mono ?_); rintro e w' ⟨rfl, rfl⟩)) | (go_at_call 185; ((with_reducible refine HEX.out.mono ?_); rintro e w' ⟨rfl, rfl⟩)) | (go_at_call 186; ((with_reducible refine HPAR.out.mono ?_); rintro e w' ⟨rfl, hbel⟩)) | (go_at_call 183; ((with_reducible refine (HB.out _).mono ?_); rintro e w' ⟨rfl, rfl⟩)))
 go_ret3
 exact ⟨rfl, by first | exact hbel | exact pw_below_drewN hbel _ | exact Below.refl _ _ | exact pw_below_drewN (Below.refl _ _) _⟩
set_option maxHeartbeats 2000000 in
set_option maxRecDepth 100000 in
theorem atof64_same (s : ByteArray) (M : Nat) (p : Int) (w : World) (hM1 : 1 ≤ M) (hM2 : M < 10000000000000000000) (hp1 : -345 ≤ p) (hp2 : p ≤ 310) (u : Nat) (ev ev2 : Value) (hu : u ≤ 9218868437227405312)
  (hsp : ∀ W, Calls Tryz.prog 174 #[.string s] W fun e w' => e = .returned (.tuple #[.float .f64 0, .int .i64 0, .bool false]) ∧ W = w')
  (hrd : ∀ W, Calls Tryz.prog 175 #[.string s] W fun e w' => e = .returned (.tuple #[.int .u64 M, .int .i64 p, .bool false, .bool true, .bool false, .int .i64 s.size, .bool true]) ∧ W = w')
  (hpar : Calls Tryz.prog 186 #[.int .u64 M, .int .i64 p, .int .u64 0] w fun r w' => r = .returned (.tuple #[.float .f64 u, ev]) ∧ Below w.heap.size w w')
  (hpar2 : ∀ W, Below w.heap.size w W → Calls Tryz.prog 186 #[.int .u64 ((M : Int) + 1), .int .i64 p, .int .u64 0] W fun r w' => r = .returned (.tuple #[.float .f64 u, ev2]) ∧ Below w.heap.size w w')
  (hopt : w.cell? ⟨4, 0, none⟩ = some (.bool true)) :
  Calls Tryz.prog 160 #[.string s] w fun e w' => e = .returned (.tuple #[.float .f64 u, .int .i64 s.size, ev]) ∧ Below w.heap.size w w' := by
 have HSP := Lib.hid hsp
 have HRD := Lib.hid hrd
 have HPAR2 := Lib.hid hpar2
 have ho : (FloatKind.f64.format.order u u == some .eq) = true := (order_words u u hu hu).trans (decide_eq_true rfl)
 have HPAR := Lib.hid hpar
 have hb := fun W => bool2u_calls false W
 have HB := Lib.hid hb
 have c0 : ((M : Int) == 0) = false := by rw [beq_eq_false_iff_ne]; omega
 clear hsp hrd hb hpar hpar2
 go_enter Tryz.func160, Tryz.ntmps160
 go_wp2_with (first | (go_at_call 174; ((with_reducible refine (HSP.out _).mono ?_); rintro e w' ⟨rfl, rfl⟩)) | (go_at_call 175; ((with_reducible refine (HRD.out _).mono ?_); rintro e w' ⟨rfl, rfl⟩)) | (go_at_call 186; ((with_reducible refine HPAR.out.mono ?_); rintro e w' ⟨rfl, hbel⟩)) | (go_at_call 186; ((with_reducible refine (HPAR2.out _ hbel).mono ?_); rintro e w' ⟨rfl, hbel2⟩)) | (go_at_call 183; ((with_reducible refine (HB.out _).mono ?_); rintro e w' ⟨rfl, rfl⟩)))
 go_ret3
 exact ⟨rfl, by first | exact hbel2 | exact pw_below_drewN hbel2 _ | exact hbel | exact pw_below_drewN hbel _ | exact Below.refl _ _ | exact pw_below_drewN (Below.refl _ _) _⟩

def dec0 (i : Nat) : Value := if i < 800 then .int .u8 0 else if i < 802 then .int .i64 0 else .bool false
theorem zero_cells : Tryz.zeroCells188 = Array.replicate 800 (.int .u8 0) ++ #[.int .i64 0, .int .i64 0, .bool false, .bool false] := by kernel_rfl
theorem arr0 (w : World) : Arr (w.alloc (.cells Tryz.zeroCells188 188)) w.heap.size dec0 := by
 refine ⟨fun i hi => ?_, fun i hi => ?_⟩
 ·rw [blk_cell (blk_new w _) i, zero_cells]
  unfold dec0
  by_cases h : i < 800
  ·rw [if_pos h, Array.getElem?_append_left (by simpa using h), Array.getElem?_replicate, if_pos h]
  ·rw [if_neg h, Array.getElem?_append_right (by simp; omega)]
   have hi4 : i = 800 ∨ i = 801 ∨ i = 802 ∨ i = 803 := by omega
   rcases hi4 with rfl | rfl | rfl | rfl <;> simp
 ·exact blk_frozen (blk_new w _) i
structure SetAt (w : World) (B : Nat) (w' : World) (ds : List Nat) (dp : Int) : Prop where mk ::
 out : ∃ f, Arr w' B f ∧ Dec f ds dp false false
 bel : Below w.heap.size w w'
set_option maxHeartbeats 2000000 in
set_option maxRecDepth 100000 in
theorem atof64_slow (s : ByteArray) (M : Nat) (p : Int) (w : World) (hM1 : 1 ≤ M) (hM2 : M < 10000000000000000000) (hp1 : -345 ≤ p) (hp2 : p ≤ 310) (u v A C : Nat) (ds : List Nat) (dp : Int) (ev ev2 : Value) (hu : u ≤ 9218868437227405312) (hv : v ≤ 9218868437227405312) (hne : u ≠ v)
  (hsp : ∀ W, Calls Tryz.prog 174 #[.string s] W fun e w' => e = .returned (.tuple #[.float .f64 0, .int .i64 0, .bool false]) ∧ W = w')
  (hrd : ∀ W, Calls Tryz.prog 175 #[.string s] W fun e w' => e = .returned (.tuple #[.int .u64 M, .int .i64 p, .bool false, .bool true, .bool false, .int .i64 s.size, .bool true]) ∧ W = w')
  (hpar : Calls Tryz.prog 186 #[.int .u64 M, .int .i64 p, .int .u64 0] w fun r w' => r = .returned (.tuple #[.float .f64 u, ev]) ∧ Below w.heap.size w w')
  (hpar2 : ∀ W, Below w.heap.size w W → Calls Tryz.prog 186 #[.int .u64 ((M : Int) + 1), .int .i64 p, .int .u64 0] W fun r w' => r = .returned (.tuple #[.float .f64 v, ev2]) ∧ Below w.heap.size w w')
  (hset : ∀ W, Below w.heap.size w W → Calls Tryz.prog 181 #[.pointer (some ⟨W.heap.size, 0, none⟩), .string s] (W.alloc (.cells Tryz.zeroCells188 188)) fun e w' => e = .returned (.bool true) ∧ SetAt w W.heap.size w' ds dp)
  (hfl : ∀ B w1, w.heap.size ≤ B → SetAt w B w1 ds dp → Calls Tryz.prog 182 #[.pointer (some ⟨B, 0, none⟩), .pointer (some ⟨5, 0, none⟩)] w1 fun e w' => ∃ (x : Nat) (ov : Bool), e = .returned (.tuple #[.int .u64 x, .bool ov]) ∧ NearE A C 0 x ∧ Below w.heap.size w w')
  (hopt : w.cell? ⟨4, 0, none⟩ = some (.bool true)) :
  Calls Tryz.prog 160 #[.string s] w fun e w' => (∃ (x : Nat) (er : Value), e = .returned (.tuple #[.float .f64 x, .int .i64 s.size, er]) ∧ ErrOr er ∧ NearE A C 0 x) ∧ Below w.heap.size w w' := by
 have HSP := Lib.hid hsp
 have HRD := Lib.hid hrd
 have HPAR2 := Lib.hid hpar2
 have HSET := Lib.hid hset
 have HFL := Lib.hid hfl
 have ho : (FloatKind.f64.format.order u v == some .eq) = false := (order_words u v hu hv).trans (decide_eq_false hne)
 have HPAR := Lib.hid hpar
 have hb := fun W => bool2u_calls false W
 have HB := Lib.hid hb
 have c0 : ((M : Int) == 0) = false := by rw [beq_eq_false_iff_ne]; omega
 clear hsp hrd hb hpar hpar2 hset hfl
 have hfb := fun (x : Nat) => frombits_in (x : Int) x (Int.toNat_natCast x)
 go_enter Tryz.func160, Tryz.ntmps160
 go_wp2_with (first | (go_at_call 174; ((with_reducible refine (HSP.out _).mono ?_); rintro e w' ⟨rfl, rfl⟩)) | (go_at_call 175; ((with_reducible refine (HRD.out _).mono ?_); rintro e w' ⟨rfl, rfl⟩)) | (go_at_call 186; ((with_reducible refine HPAR.out.mono ?_); rintro e w' ⟨rfl, hbel⟩)) | (go_at_call 186; ((with_reducible refine (HPAR2.out _ hbel).mono ?_); rintro e w' ⟨rfl, hbel2⟩)) | (go_at_call 181; ((with_reducible refine (HSET.out _ hbel2).mono ?_); rintro e w' ⟨rfl, hset⟩)) | (go_at_call 182; ((with_reducible refine (HFL.out _ _ hbel2.size hset).mono ?_); rintro e w' ⟨x, ov, rfl, hx, hbel3⟩)) | (go_at_call 183; ((with_reducible refine (HB.out _).mono ?_); rintro e w' ⟨rfl, rfl⟩)))
 all_goals go_ret3
 all_goals exact ⟨⟨x, _, rfl, by first | exact .inl rfl | exact .inr rfl, hx⟩, by first | exact hbel3 | exact pw_below_drewN hbel3 _⟩

structure Tabs (w : World) (B : Nat) : Prop where mk ::
 info : Info64 w B
 tens : Tens w B
 pow : Pow10 w B
 cheats : Cheats w B
 tab : Tab9 w B
 oblk : 4 < B
 opt : w.cell? ⟨4, 0, none⟩ = some (.bool true)
theorem Tabs.below {w w' : World} {B : Nat} (h : Tabs w B) (hb : Below B w w') : Tabs w' B :=
 ⟨h.info.below hb, h.tens.below hb, h.pow.below hb, h.cheats.below hb, h.tab.below hb, h.oblk, (hb.cell (p := ⟨_, 0, none⟩) h.oblk).trans h.opt⟩
theorem Info64.up {w : World} {B C : Nat} (h : Info64 w B) (hc : B ≤ C) : Info64 w C := ⟨Nat.lt_of_lt_of_le h.blk hc, h.mant, h.exp, h.bias⟩
theorem Tab9.up {w : World} {B C : Nat} (h : Tab9 w B) (hc : B ≤ C) : Tab9 w C := by
 obtain ⟨tb, tq, tc, h1, h2, h3⟩ := h
 exact ⟨tb, tq, tc, by omega, by omega, h3⟩
theorem Cheats.up {w : World} {B C : Nat} (h : Cheats w B) (hc : B ≤ C) : Cheats w C := by
 obtain ⟨lb, lo, lc, h1, h2, h3⟩ := h
 exact ⟨lb, lo, lc, by omega, by omega, h3⟩
theorem dec_start : Dec dec0 [] 0 false false := by
 refine ⟨fun i hi => by simp at hi, fun i => by simp, by simp, rfl, rfl, rfl, rfl⟩
theorem atof64_calls (s : ByteArray) (D M t : Nat) (E p dp : Int) (T : Bool) (ds : List Nat) (w : World) (B : Nat) (hB : B ≤ w.heap.size) (ht : Tabs w B) (hr : Read D M t E p T) (hD : D < 10 ^ 60) (hp1 : -10000 ≤ p) (hp2 : p ≤ 10000)
  (h0 : ds.getD 0 0 ≠ 0) (hten : ∀ i, ds.getD i 0 < 10) (hl : ds.length ≤ 60) (hnum : numL ds = D) (hdp : dp = ds.length + E)
  (hsp : ∀ W, Calls Tryz.prog 174 #[.string s] W fun e w' => e = .returned (.tuple #[.float .f64 0, .int .i64 0, .bool false]) ∧ W = w')
  (hrd : ∀ W, Calls Tryz.prog 175 #[.string s] W fun e w' => e = .returned (.tuple #[.int .u64 M, .int .i64 p, .bool false, .bool T, .bool false, .int .i64 s.size, .bool true]) ∧ W = w')
  (hset : ∀ (C : Nat) (f : Nat → Value) (W : World), Arr W C f → Dec f [] 0 false false → Calls Tryz.prog 181 #[.pointer (some ⟨C, 0, none⟩), .string s] W fun e w' => e = .returned (.bool true) ∧ Made C W w' ds dp false false) :
  Calls Tryz.prog 160 #[.string s] w fun e w' => (∃ (x : Nat) (er : Value), e = .returned (.tuple #[.float .f64 x, .int .i64 s.size, er]) ∧ ErrOr er ∧ NearE (D * 10 ^ E.toNat) (10 ^ (-E).toNat) 0 x) ∧ Below w.heap.size w w' := by
 have hopt := ht.opt
 rcases Int.lt_or_le 310 p with hp | hp
 ·refine (atof64_great s M p T w hr.m1 hr.m2 hp hsp hrd hopt).mono ?_
  rintro e w' ⟨rfl, hb⟩
  exact ⟨⟨9218868437227405312, _, rfl, .inr rfl, hr.great hp⟩, hb⟩
 ·rcases Int.lt_or_le p (-345) with hq | hq
  ·refine (atof64_small s M p T w hr.m1 hr.m2 hq hp1 hsp hrd hopt).mono ?_
   rintro e w' ⟨rfl, hb⟩
   exact ⟨⟨0, _, rfl, .inl rfl, hr.small hq⟩, hb⟩
  ·have hm2 := hr.m2
   obtain ⟨u, ev, e1, e2, e3⟩ := parse_calls M p hr.m1 (by omega) (by omega) (by omega)
   cases T with
   | false =>
    obtain ⟨x, ok, x1, x2⟩ := exact_calls M p w B hr.m1 (by omega) (by omega) ht.info ht.tens
    cases ok with
    | true =>
     refine (atof64_exact s M p w hr.m1 hr.m2 hq hp x hsp hrd x2 hopt).mono ?_
     rintro e w' ⟨rfl, hb⟩
     exact ⟨⟨x, _, rfl, .inl rfl, hr.same (x1 rfl)⟩, hb⟩
    | false =>
     refine (atof64_fast s M p w hr.m1 hr.m2 hq hp x u ev hsp hrd x2 (e3 w B hB ht.pow) hopt).mono ?_
     rintro e w' ⟨rfl, hb⟩
     exact ⟨⟨u, _, rfl, e1, hr.same e2⟩, hb⟩
   | true =>
    obtain ⟨v, ev2, f1, f2, f3⟩ := parse_calls (M + 1) p (by omega) (by omega) (by omega) (by omega)
    have hpar2 : ∀ W, Below w.heap.size w W → Calls Tryz.prog 186 #[.int .u64 ((M : Int) + 1), .int .i64 p, .int .u64 0] W fun r w' => r = .returned (.tuple #[.float .f64 v, ev2]) ∧ Below w.heap.size w w' := by
     intro W hb
     have hWs : w.heap.size ≤ W.heap.size := hb.size
     have h := f3 W B (Nat.le_trans hB hWs) (ht.pow.below (hb.mono hB))
     rw [show ((M + 1 : Nat) : Int) = (M : Int) + 1 from rfl] at h
     refine h.mono ?_
     rintro r w' ⟨rfl, hb2⟩
     exact ⟨rfl, hb.trans (hb2.mono hWs)⟩
    rcases Nat.decEq u v with huv | huv
    ·have hn := hr.num hD hq e2 f2 huv
     have hv : Val ds dp D 0 E := ⟨0, 0, 0, 0, by omega, by omega, by rw [hnum]⟩
     have hpt := Num.point hn hten h0 hv
     refine atof64_slow s M p w hr.m1 hr.m2 hq hp u v _ _ ds dp ev ev2 (nearE_le e2) (nearE_le f2) huv hsp hrd (e3 w B hB ht.pow) hpar2 ?_ ?_ hopt
     ·intro W hb
      have hWs : w.heap.size ≤ W.heap.size := hb.size
      refine (hset W.heap.size dec0 _ (arr0 W) dec_start).mono ?_
      rintro e w' ⟨rfl, f, ha, hd, hbel⟩
      exact ⟨rfl, ⟨f, ha, hd⟩, (hb.alloc hWs _).trans (hbel.mono hWs)⟩
     ·rintro C w1 hC ⟨⟨f, ha, hd⟩, hbel⟩
      have hBC := Nat.le_trans hB hC
      have hb1 := hbel.mono hB
      refine (floatBits_calls C D E f ds dp w1 ((ht.cheats.below hb1).up hBC) ((ht.tab.below hb1).up hBC) ((ht.info.below hb1).up hBC) ha hd h0 hl hn hv hpt.1 hpt.2).mono ?_
      rintro e w' ⟨x, ov, rfl, hx, hb2⟩
      exact ⟨x, ov, rfl, hx, hbel.trans (hb2.mono hC)⟩
    ·subst huv
     refine (atof64_same s M p w hr.m1 hr.m2 hq hp u ev ev2 (nearE_le e2) hsp hrd (e3 w B hB ht.pow) hpar2 hopt).mono ?_
     rintro e w' ⟨rfl, hb⟩
     exact ⟨⟨u, _, rfl, e1, hr.between e2 f2⟩, hb⟩

theorem byte_at (s : ByteArray) (k : Nat) (h : k < s.size) : s.data.toList[k]? = some s[k] := by
 rw [Array.getElem?_toList]; exact Array.getElem?_eq_getElem (show k < s.data.size from h)
theorem take_cons' {α : Type} (a : α) (l : List α) (n : Nat) (h : 1 ≤ n) : (a :: l).take n = a :: l.take (n - 1) := by
 obtain ⟨m, rfl⟩ : ∃ m, n = m + 1 := ⟨n - 1, by omega⟩
 rfl
theorem num_ge (c : UInt8) (l : List UInt8) (h : 49 ≤ c.toNat) : 10 ^ l.length ≤ num (c :: l) := by
 have e : num (c :: l) = (0 * 10 + (c.toNat - 48)) * 10 ^ l.length + num l := num_from l _
 rw [e]
 have : 1 * 10 ^ l.length ≤ (0 * 10 + (c.toNat - 48)) * 10 ^ l.length := Nat.mul_le_mul_right _ (by omega)
 omega
structure Text (s : ByteArray) (n : Nat) (E : Int) : Prop where mk ::
 read : Read (num (s.data.toList.take n)) (num (s.data.toList.take (min n 19))) (n - min n 19) E (E + (n - min n 19 : Nat)) (lost (s.data.toList.take n))
 few : num (s.data.toList.take n) < 10 ^ 60
 top : (digs s n).getD 0 0 ≠ 0
 ten : ∀ i, (digs s n).getD i 0 < 10
 len : (digs s n).length = n
theorem text_of (s : ByteArray) (n : Nat) (E : Int) (hn1 : 1 ≤ n) (hn2 : n ≤ 60) (hs : n < s.size) (hdig : ∀ k (h : k < s.size), k < n → 48 ≤ s[k].toNat ∧ s[k].toNat ≤ 57) (hfirst : s[0].toNat ≠ 48) : Text s n E := by
 have hlen : (s.data.toList.take n).length = n := by
  rw [List.length_take, Nat.min_eq_left]
  exact Nat.le_of_lt (by simpa using hs)
 have hall : ∀ c ∈ s.data.toList.take n, c.toNat ≤ 57 := by
  intro c hc
  obtain ⟨i, hi⟩ := List.getElem?_of_mem hc
  have hin : i < n := by
   have := (List.getElem?_eq_some_iff.1 hi).1
   omega
  rw [List.getElem?_take_of_lt hin, byte_at s i (by omega)] at hi
  have := hdig i (by omega) hin
  rw [Option.some.inj hi] at this
  exact this.2
 have htake : s.data.toList.take (min n 19) = (s.data.toList.take n).take (min (s.data.toList.take n).length 19) := by
  rw [hlen, List.take_take]
  congr 1
  omega
 have h0 := hdig 0 (by omega) (by omega)
 obtain ⟨l, hl⟩ : ∃ l, s.data.toList.take n = s[0] :: l := by
  have h := byte_at s 0 (by omega)
  rcases hL : s.data.toList with _ | ⟨c, l⟩
  ·rw [hL] at h; exact absurd h (by simp)
  ·rw [hL] at h
   have : c = s[0] := by simpa using h
   rw [this]
   exact ⟨l.take (n - 1), take_cons' _ _ _ hn1⟩
 have hlenl : l.length + 1 = n := by rw [hl] at hlen; exact hlen
 obtain ⟨r, e1, e2, e3⟩ := num_split _ hall
 rw [← htake, hlen] at e1
 rw [hlen] at e2
 have hmin : min n 19 ≤ 19 := Nat.min_le_right _ _
 have hmin1 : 1 ≤ min n 19 := Nat.le_min.2 ⟨hn1, by omega⟩
 have hl1 : s.data.toList.take (min n 19) = s[0] :: l.take (min n 19 - 1) := by
  rw [htake, hlen, hl]; exact take_cons' _ _ _ hmin1
 have hge := num_ge s[0] (l.take (min n 19 - 1)) (by omega)
 rw [← hl1, List.length_take, Nat.min_eq_left (by omega)] at hge
 have hM2 : num (s.data.toList.take (min n 19)) < 10 ^ 19 := by
  have h := num_lt (s.data.toList.take (min n 19)) (fun c hc => hall c (by rw [htake] at hc; exact List.mem_of_mem_take hc))
  refine Nat.lt_of_lt_of_le h (Nat.pow_le_pow_right (by omega) ?_)
  rw [List.length_take]
  exact Nat.le_trans (Nat.min_le_left _ _) hmin
 refine ⟨⟨Nat.le_trans (ten_pos _) hge, hM2, rfl, by omega, ?_, fun h => by rw [e1, e3 h, Nat.add_zero], fun h => ?_⟩, ?_, ?_, ?_, digs_len s n (by omega)⟩
 ·rw [e1, Nat.add_mul]; omega
 ·have hn : 19 < n := by
   rcases Nat.lt_or_ge 19 n with h' | h'
   ·exact h'
   ·exfalso
    unfold lost at h
    rw [List.drop_of_length_le (by omega)] at h
    exact absurd h (by simp)
  rw [Nat.min_eq_right (by omega)] at hge ⊢
  exact hge
 ·have h := num_lt _ hall
  rw [hlen] at h
  exact Nat.lt_of_lt_of_le h (Nat.pow_le_pow_right (by omega) hn2)
 ·unfold digs
  rw [hl]
  show s[0].toNat - 48 ≠ 0
  omega
 ·intro i
  unfold digs
  rw [List.getD_eq_getElem?_getD, List.getElem?_map]
  rcases hc : (s.data.toList.take n)[i]? with _ | c
  ·simp
  ·have := hall c (List.mem_of_getElem? hc)
   simp; omega
theorem atof64_minus (s : ByteArray) (n ev : Nat) (w : World) (B : Nat) (hB : B ≤ w.heap.size) (ht : Tabs w B) (hn1 : 1 ≤ n) (hn2 : n ≤ 60) (hsz1 : n + 2 < s.size) (hsz2 : s.size ≤ n + 5)
  (hdig : ∀ k (h : k < s.size), k < n → 48 ≤ s[k].toNat ∧ s[k].toNat ≤ 57) (hfirst : s[0].toNat ≠ 48) (he : s[n].toNat = 101) (hneg : s[n + 1].toNat = 45)
  (hexp : ∀ k (h : k < s.size), n + 2 ≤ k → 48 ≤ s[k].toNat ∧ s[k].toNat ≤ 57)
  (hev : num (s.data.toList.drop (n + 2)) = ev) (hev2 : ev ≤ 1000) :
  Calls Tryz.prog 160 #[.string s] w fun e w' => (∃ (x : Nat) (er : Value), e = .returned (.tuple #[.float .f64 x, .int .i64 s.size, er]) ∧ ErrOr er ∧ NearE (num (s.data.toList.take n) * 10 ^ (-(ev : Int)).toNat) (10 ^ (- -(ev : Int)).toNat) 0 x) ∧ Below w.heap.size w w' := by
 have htx := text_of s n (-(ev : Int)) hn1 hn2 (by omega) hdig hfirst
 have h0 := hdig 0 (by omega) (by omega)
 have hm := Nat.min_le_left n 19
 have ep : (n : Int) - ev - (min n 19 : Nat) = -(ev : Int) + (n - min n 19 : Nat) := by omega
 refine atof64_calls s _ _ _ _ _ ((n : Int) - ev) _ (digs s n) w B hB ht htx.read htx.few (by omega) (by omega) htx.top htx.ten (by rw [htx.len]; exact hn2) (numL_digs s n) (by rw [htx.len]; omega) ?_ ?_ ?_
 ·exact fun W => special_calls s W (by omega) h0.1 h0.2 (by omega)
 ·intro W
  have h := readFloat_minus s n ev _ _ W hn1 hn2 hsz1 hsz2 hdig hfirst he hneg hexp rfl rfl hev (by have := htx.read.m1; omega)
  rw [ep] at h
  exact h
 ·exact fun C f W ha hd => set_minus C f s n ev W ha hd hn1 hn2 hsz1 hsz2 hdig hfirst he hneg hexp hev
theorem atof64_plus (s : ByteArray) (n ev : Nat) (w : World) (B : Nat) (hB : B ≤ w.heap.size) (ht : Tabs w B) (hn1 : 1 ≤ n) (hn2 : n ≤ 60) (hsz1 : n + 1 < s.size) (hsz2 : s.size ≤ n + 4)
  (hdig : ∀ k (h : k < s.size), k < n → 48 ≤ s[k].toNat ∧ s[k].toNat ≤ 57) (hfirst : s[0].toNat ≠ 48) (he : s[n].toNat = 101)
  (hexp : ∀ k (h : k < s.size), n + 1 ≤ k → 48 ≤ s[k].toNat ∧ s[k].toNat ≤ 57)
  (hev : num (s.data.toList.drop (n + 1)) = ev) (hev2 : ev ≤ 1000) :
  Calls Tryz.prog 160 #[.string s] w fun e w' => (∃ (x : Nat) (er : Value), e = .returned (.tuple #[.float .f64 x, .int .i64 s.size, er]) ∧ ErrOr er ∧ NearE (num (s.data.toList.take n) * 10 ^ (ev : Int).toNat) (10 ^ (-(ev : Int)).toNat) 0 x) ∧ Below w.heap.size w w' := by
 have htx := text_of s n (ev : Int) hn1 hn2 (by omega) hdig hfirst
 have h0 := hdig 0 (by omega) (by omega)
 have hm := Nat.min_le_left n 19
 have ep : (n : Int) + ev - (min n 19 : Nat) = (ev : Int) + (n - min n 19 : Nat) := by omega
 refine atof64_calls s _ _ _ _ _ ((n : Int) + ev) _ (digs s n) w B hB ht htx.read htx.few (by omega) (by omega) htx.top htx.ten (by rw [htx.len]; exact hn2) (numL_digs s n) (by rw [htx.len]) ?_ ?_ ?_
 ·exact fun W => special_calls s W (by omega) h0.1 h0.2 (by omega)
 ·intro W
  have h := readFloat_plus s n ev _ _ W hn1 hn2 hsz1 hsz2 hdig hfirst he hexp rfl rfl hev (by have := htx.read.m1; omega)
  rw [ep] at h
  exact h
 ·exact fun C f W ha hd => set_plus C f s n ev W ha hd hn1 hn2 hsz1 hsz2 hdig hfirst he hexp hev
set_option maxHeartbeats 2000000 in
set_option maxRecDepth 100000 in
theorem atof64_zero (s : ByteArray) (w : World)
  (hsp : ∀ W, Calls Tryz.prog 174 #[.string s] W fun e w' => e = .returned (.tuple #[.float .f64 0, .int .i64 0, .bool false]) ∧ W = w')
  (hrd : ∀ W, Calls Tryz.prog 175 #[.string s] W fun e w' => e = .returned (.tuple #[.int .u64 0, .int .i64 0, .bool false, .bool false, .bool false, .int .i64 s.size, .bool true]) ∧ W = w')
  (hopt : w.cell? ⟨4, 0, none⟩ = some (.bool true)) :
  Calls Tryz.prog 160 #[.string s] w fun e w' => e = .returned (.tuple #[.float .f64 0, .int .i64 s.size, .nilIface]) ∧ Below w.heap.size w w' := by
 have HSP := Lib.hid hsp
 have HRD := Lib.hid hrd
 have hb := fun W => bool2u_calls false W
 have HB := Lib.hid hb
 have h2 := frombits_in 0 0 (by decide)
 have u5 : Go.bits .or .u64 0 0 = 0 := by decide
 clear hsp hrd hb
 go_enter Tryz.func160, Tryz.ntmps160
 go_wp2_with (first | (go_at_call 174; ((with_reducible refine (HSP.out _).mono ?_); rintro e w' ⟨rfl, rfl⟩)) | (go_at_call 175; ((with_reducible refine (HRD.out _).mono ?_); rintro e w' ⟨rfl, rfl⟩)) | (go_at_call 183; ((with_reducible refine (HB.out _).mono ?_); rintro e w' ⟨rfl, rfl⟩)))
 go_ret3
 exact ⟨rfl, by first | exact Below.refl _ _ | exact pw_below_drewN (Below.refl _ _) _⟩
end Go.Proofs.YtkjpelgdppmbjaaGreatDoor.SF
