/- Walks of the library's number reading: what the first figures tell of all. -/
import Derived.Test.YtfoekmfpcahmiabGreatDoorSQK4
namespace Go.Proofs.YtfoekmfpcahmiabGreatDoor.SF
open Go.RowKit YtfoekmfpcahmiabGreatDoorW.PrintWords CB CQ PN
theorem Zoo (l : List UInt8) (a : Nat) : (l.map fun c => c.toNat - 48).foldl (fun a d => a * 10 + d) a = l.foldl (fun a c => a * 10 + (c.toNat - 48)) a:=by
 induction l generalizing a with
 | nil => rfl
 | cons c l ih => rw [List.map_cons,List.foldl_cons,List.foldl_cons,ih]
theorem ZiA (s : ByteArray) (n : Nat) : numL (digs s n) = num (s.data.toList.take n):=Zoo _ 0
theorem ZmG (l m : List UInt8) : num (l ++ m) = num l * 10 ^ m.length + num m:=by
 unfold num;rw [List.foldl_append,Zhz];rfl
theorem ZmE (l : List UInt8) (h : l.any (fun c => c != 48) = false) : num l = 0:=by
 induction l with
 | nil => rfl
 | cons c l ih =>
  rw [List.any_cons,Bool.or_eq_false_iff] at h;(have hc : c = 48:=by simpa using h.1);have:=ih h.2;rw [show c :: l = [c] ++ l from rfl,ZmG,this,hc];show num [48] * _ + 0 = 0;rw [show num [48] = 0 from rfl,Nat.zero_mul]
theorem ZmF (l : List UInt8) (hd : ∀ c ∈ l,c.toNat ≤ 57) : ∃ r,num l = num (l.take (min l.length 19)) * 10 ^ (l.length - min l.length 19) + r ∧ r < 10 ^ (l.length - min l.length 19) ∧ (lost l = false → r = 0):=by
 have e : l = l.take 19 ++ l.drop 19:=(List.take_append_drop 19 l).symm
 have e2 : l.take (min l.length 19) = l.take 19:=by
  rcases Nat.le_total l.length 19 with h | h
  ·rw [Nat.min_eq_left h,List.take_length,List.take_of_length_le h]
  ·rw [Nat.min_eq_right h]
 (have e3 : l.length - min l.length 19 = (l.drop 19).length:=by rw [List.length_drop];omega);refine ⟨num (l.drop 19),?_,?_,fun h => ZmE _ h⟩
 ·rw [e2,e3,← ZmG,List.take_append_drop]
 ·rw [e3];exact Zdv _ (fun c hc => hd c (List.mem_of_mem_drop hc))
theorem ZmO {M t u : Nat} {p E : Int} (h : p = E + t) : ZbB (M * 10 ^ p.toNat) (10 ^ (-p).toNat) 0 u ↔ ZbB (M * 10 ^ t * 10 ^ E.toNat) (10 ^ (-E).toNat) 0 u:=by
 refine Zcu (Nat.pow_pos (by omega)) (Nat.pow_pos (by omega)) 0 0 rfl ?_;rw [Nat.pow_zero,Nat.mul_one,Nat.mul_one]
 have e : 10 ^ p.toNat * 10 ^ (-E).toNat = 10 ^ t * 10 ^ E.toNat * 10 ^ (-p).toNat:=by
  rw [← Nat.pow_add,← Nat.pow_add,← Nat.pow_add];congr 1;omega
 calc M * 10 ^ p.toNat * 10 ^ (-E).toNat = M * (10 ^ p.toNat * 10 ^ (-E).toNat):=by ac_rfl
  _ = _:=by rw [e];ac_rfl
structure Read (D M t : Nat) (E p : Int) (T : Bool) : Prop where
 m1 : 1 ≤ M
 m2 : M < 10000000000000000000
 p : p = E + t
 lo : M * 10 ^ t ≤ D
 hi : D < (M + 1) * 10 ^ t
 just : T = false → D = M * 10 ^ t
 many : T = true → 1000000000000000000 ≤ M
theorem ZcF (n : Nat) : 0 < 10 ^ n:=Nat.pow_pos (by omega)
theorem Read.low {D M t : Nat} {E p : Int} {T : Bool} (h : Read D M t E p T) : (M * 10 ^ p.toNat) * 10 ^ (-E).toNat ≤ (D * 10 ^ E.toNat) * 10 ^ (-p).toNat:=by
 have e : 10 ^ p.toNat * 10 ^ (-E).toNat = 10 ^ t * 10 ^ E.toNat * 10 ^ (-p).toNat:=by
  have:=h.p;rw [← Nat.pow_add,← Nat.pow_add,← Nat.pow_add];congr 1;omega
 calc M * 10 ^ p.toNat * 10 ^ (-E).toNat = M * (10 ^ p.toNat * 10 ^ (-E).toNat):=by ac_rfl
  _ = M * 10 ^ t * (10 ^ E.toNat * 10 ^ (-p).toNat):=by rw [e];ac_rfl
  _ ≤ D * (10 ^ E.toNat * 10 ^ (-p).toNat):=Nat.mul_le_mul_right _ h.lo
  _ = _:=by ac_rfl
theorem Read.high {D M t : Nat} {E p : Int} {T : Bool} (h : Read D M t E p T) : (D * 10 ^ E.toNat) * 10 ^ (-p).toNat < ((M + 1) * 10 ^ p.toNat) * 10 ^ (-E).toNat:=by
 have e : 10 ^ p.toNat * 10 ^ (-E).toNat = 10 ^ t * 10 ^ E.toNat * 10 ^ (-p).toNat:=by
  have:=h.p;rw [← Nat.pow_add,← Nat.pow_add,← Nat.pow_add];congr 1;omega
 have hp : 0 < 10 ^ E.toNat * 10 ^ (-p).toNat:=Nat.mul_pos (ZcF _) (ZcF _)
 calc D * 10 ^ E.toNat * 10 ^ (-p).toNat = D * (10 ^ E.toNat * 10 ^ (-p).toNat):=by ac_rfl
  _ < (M + 1) * 10 ^ t * (10 ^ E.toNat * 10 ^ (-p).toNat):=Nat.mul_lt_mul_of_pos_right h.hi hp
  _ = (M + 1) * (10 ^ t * 10 ^ E.toNat * 10 ^ (-p).toNat):=by ac_rfl
  _ = _:=by rw [← e];ac_rfl
theorem Read.between {D M t u : Nat} {E p : Int} {T : Bool} (h : Read D M t E p T) (h1 : ZbB (M * 10 ^ p.toNat) (10 ^ (-p).toNat) 0 u) (h2 : ZbB ((M + 1) * 10 ^ p.toNat) (10 ^ (-p).toNat) 0 u) : ZbB (D * 10 ^ E.toNat) (10 ^ (-E).toNat) 0 u :=
 ZhC (ZcF _) (ZcF _) (ZcF _) h.low (Nat.le_of_lt h.high) h1 h2
theorem Read.same {D M t u : Nat} {E p : Int} (h : Read D M t E p false) (h1 : ZbB (M * 10 ^ p.toNat) (10 ^ (-p).toNat) 0 u) : ZbB (D * 10 ^ E.toNat) (10 ^ (-E).toNat) 0 u:=by
 rw [h.just rfl];exact (ZmO h.p).1 h1
@[irreducible] def T311 : Nat:=10 ^ 311
theorem T311_le (k : Nat) (h : 311 ≤ k) : T311 ≤ 10 ^ k:=by unfold T311;exact ZgL 311 k h
theorem top_lt : top2 < T311:=by decide +kernel
theorem Read.great {D M t : Nat} {E p : Int} {T : Bool} (h : Read D M t E p T) (hp : 310 < p) : ZbB (D * 10 ^ E.toNat) (10 ^ (-E).toNat) 0 9218868437227405312:=by
 refine ZmP (ZcF _) ?_;have h1:=h.low;rw [show (-p).toNat = 0 by omega,Nat.pow_zero,Nat.mul_one] at h1;refine Nat.le_trans (Nat.mul_le_mul_right _ ?_) h1;have h2:=T311_le p.toNat (by omega);have h3 : 1 * 10 ^ p.toNat ≤ M * 10 ^ p.toNat:=Nat.mul_le_mul_right _ h.m1;have h4:=top_lt;omega
@[irreducible] def T346 : Nat:=10 ^ 346
@[irreducible] def ZhV : Nat:=2 ^ (1075 : Int).toNat
theorem T346_le (k : Nat) (h : 346 ≤ k) : T346 ≤ 10 ^ k:=by unfold T346;exact ZgL 346 k h
theorem Zn3 : 10000000000000000000 * ZhV < T346:=by decide +kernel
theorem ZoU : 2 ^ (1075 : Int).toNat = ZhV:=by unfold ZhV;exact Eq.refl _
theorem Read.small {D M t : Nat} {E p : Int} {T : Bool} (h : Read D M t E p T) (hp : p < -345) : ZbB (D * 10 ^ E.toNat) (10 ^ (-E).toNat) 0 0:=by
 refine ZiE ?_;rw [ZoU];have h1:=h.high;rw [show p.toNat = 0 by omega,Nat.pow_zero,Nat.mul_one] at h1;have h2:=T346_le (-p).toNat (by omega);have h3:=Zn3;have hm:=h.m2
 generalize 10 ^ (-p).toNat = K at *
 (have hK : 0 < K:=by omega);apply Nat.lt_of_mul_lt_mul_right (a:=K)
 generalize D * 10 ^ E.toNat = A at *
 generalize 10 ^ (-E).toNat = B at *
 have hP : 0 < ZhV:=by decide +kernel
 calc A * ZhV * K = A * K * ZhV:=by ac_rfl
  _ < (M + 1) * B * ZhV:=Nat.mul_lt_mul_of_pos_right h1 hP
  _ ≤ 10000000000000000000 * B * ZhV:=Nat.mul_le_mul_right _ (Nat.mul_le_mul_right _ hm)
  _ = B * (10000000000000000000 * ZhV):=by ac_rfl
  _ ≤ B * K:=Nat.mul_le_mul_left _ (by omega)
theorem ZeJ {A B w : Nat} (h : ZbB A B 0 w) : w ≤ 9218868437227405312:=by
 unfold ZbB Zfi at h;obtain ⟨j,_,_,h3⟩:=h;rw [h3];exact Nat.min_le_right _ _
@[irreducible] def edge : Nat:=18014398509481983 * 2 ^ (970 : Int).toNat
theorem Zng : Ieee.double.nearest false 18014398509481983 970 = 9218868437227405312:=by decide +kernel
theorem Zkt {A B : Nat} (hB : 0 < B) (h : edge * B ≤ A) : ZbB A B 0 9218868437227405312:=by
 obtain ⟨w,hw⟩:=Zc4 (A:=A) hB;have h1:=Zc3 (M:=18014398509481983) (E:=970) (by omega);rw [Zng] at h1
 have h2 : ZbB edge 1 0 9218868437227405312:=by
  refine (Zcu (A:=18014398509481983) (B:=1) (C:=edge) (D:=1) (E:=970) (F:=0) (by omega) (by omega) 0 (970 : Int).toNat rfl ?_).1 h1;unfold edge;rw [Nat.pow_zero,Nat.mul_one,Nat.mul_one]
 have h3:=Zfc (by omega) hB (by rw [Nat.mul_one];exact h) h2 hw;obtain rfl : w = 9218868437227405312:=Nat.le_antisymm (ZeJ hw) h3;exact hw
theorem ZoE : edge * 1000000000000000001 < top2 * 1000000000000000000:=by decide +kernel
@[irreducible] def T345 : Nat:=10 ^ 345
theorem T345_ge (k : Nat) (h : k ≤ 345) : 10 ^ k ≤ T345:=by unfold T345;exact ZgL k 345 h
theorem T345_lt : T345 ≤ 1000000000000000000 * T331:=by decide +kernel
theorem Read.num {D M t u v : Nat} {E p : Int} (h : Read D M t E p true) (hD : D < 10 ^ 60) (hp : -345 ≤ p) (h1 : ZbB (M * 10 ^ p.toNat) (10 ^ (-p).toNat) 0 u) (h2 : ZbB ((M + 1) * 10 ^ p.toNat) (10 ^ (-p).toNat) 0 v) (hne : u ≠ v) : Num D E:=by
 have hm:=h.many rfl;have hlow:=h.low;have hhigh:=h.high;refine ⟨?_,hD,?_,?_⟩
 ·have : 1 * 1 ≤ M * 10 ^ t:=Nat.mul_le_mul h.m1 (ZcF t);have:=h.lo;omega
 ·rcases Nat.lt_or_ge (D * 10 ^ E.toNat) (top2 * 10 ^ (-E).toNat) with hlt | hge
  ·exact hlt
  ·exfalso;apply hne;have hE:=ZcF (-E).toNat;have hP:=ZcF (-p).toNat
   generalize 10 ^ (-E).toNat = B at *
   generalize D * 10 ^ E.toNat = A at *
   generalize 10 ^ (-p).toNat = Y at *
   generalize 10 ^ p.toNat = X at *
   have h3 : edge * Y ≤ M * X:=by
    apply Nat.le_of_mul_le_mul_right (c:=B * 1000000000000000001) ?_ (Nat.mul_pos hE (by omega));have h4 : top2 * B * Y ≤ (M + 1) * X * B:=Nat.le_trans (Nat.mul_le_mul_right _ hge) (Nat.le_of_lt hhigh);have h5 : (M + 1) * 1000000000000000000 ≤ M * 1000000000000000001:=by omega
    calc edge * Y * (B * 1000000000000000001) = edge * 1000000000000000001 * (Y * B):=by ac_rfl
     _ ≤ top2 * 1000000000000000000 * (Y * B):=Nat.mul_le_mul_right _ (Nat.le_of_lt ZoE)
     _ = top2 * B * Y * 1000000000000000000:=by ac_rfl
     _ ≤ (M + 1) * X * B * 1000000000000000000:=Nat.mul_le_mul_right _ h4
     _ = (M + 1) * 1000000000000000000 * (X * B):=by ac_rfl
     _ ≤ M * 1000000000000000001 * (X * B):=Nat.mul_le_mul_right _ h5
     _ = _:=by ac_rfl
   have h6:=Zkt hP h3;have h7:=Zkt (A:=(M + 1) * X) hP (Nat.le_trans h3 (Nat.mul_le_mul_right _ (by omega)));rw [ZdF h1 h6,ZdF h2 h7]
 ·have h3 : 10 ^ (-p).toNat ≤ M * 10 ^ p.toNat * T331:=by
   have hx : 1 ≤ 10 ^ p.toNat:=ZcF _;have h4 : 10 ^ (-p).toNat ≤ T345:=T345_ge _ (by omega);have h5 : M * 1 * T331 ≤ M * 10 ^ p.toNat * T331:=Nat.mul_le_mul_right _ (Nat.mul_le_mul_left _ hx);have h6 : 1000000000000000000 * T331 ≤ M * T331:=Nat.mul_le_mul_right _ hm;rw [Nat.mul_one] at h5;exact Nat.le_trans h4 (Nat.le_trans T345_lt (Nat.le_trans h6 h5))
  apply Nat.le_of_mul_le_mul_right (c:=10 ^ (-p).toNat) ?_ (ZcF _)
  calc 10 ^ (-E).toNat * 10 ^ (-p).toNat ≤ 10 ^ (-E).toNat * (M * 10 ^ p.toNat * T331):=Nat.mul_le_mul_left _ h3
   _ = M * 10 ^ p.toNat * 10 ^ (-E).toNat * T331:=by ac_rfl
   _ ≤ D * 10 ^ E.toNat * 10 ^ (-p).toNat * T331:=Nat.mul_le_mul_right _ hlow
   _ = _:=by ac_rfl
open CH XF
@[irreducible] def T310 : Nat:=10 ^ 310
theorem T310_le (k : Nat) (h : 310 ≤ k) : T310 ≤ 10 ^ k:=by unfold T310;exact ZgL 310 k h
theorem T310_gt : top2 < T310:=by decide +kernel
theorem T331_up (k : Nat) (h : 331 ≤ k) : T331 ≤ 10 ^ k:=by unfold T331;exact ZgL 331 k h
theorem Num.Ziv {D : Nat} {E dp : Int} {ds : List Nat} (hn : Num D E) (hten : ∀ i,ds.getD i 0 < 10) (h0 : ds.getD 0 0 ≠ 0) (hv : Val ds dp D 0 E) : -330 ≤ dp ∧ dp ≤ 310:=by
 have e0 : (0 : Int).toNat = 0:=rfl;have e1 : (-(0 : Int)).toNat = 0:=rfl;constructor
 ·rcases Int.lt_or_le dp (-330) with h | h
  ·exfalso;have h1:=Zh0 hten h0 hv 0 (-dp).toNat (by omega);rw [e0,e1,Nat.pow_zero,Nat.mul_one,Nat.one_mul,Nat.one_mul] at h1;have h2:=T331_up (-dp).toNat (by omega);have h3 : D * 10 ^ E.toNat * T331 ≤ D * 10 ^ E.toNat * 10 ^ (-dp).toNat:=Nat.mul_le_mul_left _ h2;exact absurd (Nat.lt_of_le_of_lt (Nat.le_trans hn.lo h3) h1) (Nat.lt_irrefl _)
  ·exact h
 ·rcases Int.lt_or_le 310 dp with h | h
  ·exfalso;have h1:=Zh1 h0 hv (dp - 1).toNat 0 (by omega);rw [e0,e1,Nat.pow_zero,Nat.one_mul,Nat.mul_one,Nat.mul_one] at h1;have h2:=T310_le (dp - 1).toNat (by omega);have h3 : T310 * 10 ^ (-E).toNat ≤ 10 ^ (dp - 1).toNat * 10 ^ (-E).toNat:=Nat.mul_le_mul_right _ h2;have h4 : top2 * 10 ^ (-E).toNat ≤ T310 * 10 ^ (-E).toNat:=Nat.mul_le_mul_right _ (Nat.le_of_lt T310_gt);exact absurd (Nat.lt_of_le_of_lt (Nat.le_trans h4 (Nat.le_trans h3 h1)) hn.hi) (Nat.lt_irrefl _)
  ·exact h
theorem ZoI (a : Int) : compare a a = .eq:=by
 show compareOfLessAndEq a a = .eq;unfold compareOfLessAndEq;rw [if_neg (by omega),if_pos rfl]
theorem ZoJ {a b : Int} (h : a < b) : compare a b = .lt:=by
 show compareOfLessAndEq a b = .lt;unfold compareOfLessAndEq;rw [if_pos h]
theorem ZmZ (x : Nat) (h : x ≤ 9218868437227405312) : nanB x = false:=by
 unfold nanB;rw [Nat.mod_eq_of_lt (by omega)];exact decide_eq_false (by omega)
theorem Zek (x y : Nat) (hx : x ≤ 9218868437227405312) (hy : y ≤ 9218868437227405312) : (Ieee.double.order x y == some .eq) = decide (x = y):=by
 rw [Zhx x y (by omega) (by omega),if_neg (by rw [ZmZ x hx,ZmZ y hy];decide)];have k1 : keyI x = x:=if_neg (by omega);have k2 : keyI y = y:=if_neg (by omega);rw [k1,k2];rcases Nat.lt_trichotomy x y with h | h | h
 ·rw [ZoJ (by omega),decide_eq_false (by omega)];rfl
 ·subst h;rw [ZoI,decide_eq_true rfl];rfl
 ·rw [Znu (by omega),decide_eq_false (by omega)];rfl
set_option maxHeartbeats 2000000 in
set_option maxRecDepth 100000 in
theorem Zi5 (s : ByteArray) (M : Nat) (p : Int) (T : Bool) (w : World) (hM1 : 1 ≤ M) (hM2 : M < 10000000000000000000) (hp : 310 < p)
  (hsp : ∀ W,Calls Tryz.prog 108 #[.string s] W fun e w' => e = .returned (.tuple #[.float .f64 0,.int .i64 0,.bool false]) ∧ W = w')
  (hrd : ∀ W,Calls Tryz.prog 109 #[.string s] W fun e w' => e = .returned (.tuple #[.int .u64 M,.int .i64 p,.bool false,.bool T,.bool false,.int .i64 s.size,.bool true]) ∧ W = w')
  (hopt : w.cell? ⟨7,0,none⟩ = some (.bool true)) :
  Calls Tryz.prog 106 #[.string s] w fun e w' => e = .returned (.tuple #[.float .f64 9218868437227405312,.int .i64 s.size,.iface 88 (.int .i64 1)]) ∧ Below w.heap.size w w':=by
 have HSP:=Lib.hid hsp;have HRD:=Lib.hid hrd;have hb:=fun W => ZbS false W;have HB:=Lib.hid hb;(have c0 : ((M : Int) == 0) = false:=by rw [beq_eq_false_iff_ne];omega);have h2:=Zb8 9218868437227405312 9218868437227405312 (by decide);(have u5 : Go.bits .or .u64 0 9218868437227405312 = 9218868437227405312:=by decide);clear hsp hrd hb;go_enter Tryz.func106,Tryz.ntmps106;go_wp2_with (first | (go_at_call 108;((with_reducible refine (HSP.out _).mono ?_);rintro e w' ⟨rfl,rfl⟩)) | (go_at_call 109;((with_reducible refine (HRD.out _).mono ?_);rintro e w' ⟨rfl,rfl⟩)) | (go_at_call 117;((with_reducible refine (HB.out _).mono ?_);rintro e w' ⟨rfl,rfl⟩)));go_ret3;exact ⟨rfl,by first | exact Below.refl _ _ | exact Zac (Below.refl _ _) _⟩
set_option maxHeartbeats 2000000 in
set_option maxRecDepth 100000 in
theorem Zi3 (s : ByteArray) (M : Nat) (p : Int) (T : Bool) (w : World) (hM1 : 1 ≤ M) (hM2 : M < 10000000000000000000) (hp : p < -345) (hp2 : -10000 ≤ p)
  (hsp : ∀ W,Calls Tryz.prog 108 #[.string s] W fun e w' => e = .returned (.tuple #[.float .f64 0,.int .i64 0,.bool false]) ∧ W = w')
  (hrd : ∀ W,Calls Tryz.prog 109 #[.string s] W fun e w' => e = .returned (.tuple #[.int .u64 M,.int .i64 p,.bool false,.bool T,.bool false,.int .i64 s.size,.bool true]) ∧ W = w')
  (hopt : w.cell? ⟨7,0,none⟩ = some (.bool true)) :
  Calls Tryz.prog 106 #[.string s] w fun e w' => e = .returned (.tuple #[.float .f64 0,.int .i64 s.size,.nilIface]) ∧ Below w.heap.size w w':=by
 have HSP:=Lib.hid hsp;have HRD:=Lib.hid hrd;have hb:=fun W => ZbS false W;have HB:=Lib.hid hb;(have c0 : ((M : Int) == 0) = false:=by rw [beq_eq_false_iff_ne];omega);have h2:=Zb8 0 0 (by decide);(have u5 : Go.bits .or .u64 0 0 = 0:=by decide);clear hsp hrd hb;go_enter Tryz.func106,Tryz.ntmps106;go_wp2_with (first | (go_at_call 108;((with_reducible refine (HSP.out _).mono ?_);rintro e w' ⟨rfl,rfl⟩)) | (go_at_call 109;((with_reducible refine (HRD.out _).mono ?_);rintro e w' ⟨rfl,rfl⟩)) | (go_at_call 117;((with_reducible refine (HB.out _).mono ?_);rintro e w' ⟨rfl,rfl⟩)));go_ret3;exact ⟨rfl,by first | exact Below.refl _ _ | exact Zac (Below.refl _ _) _⟩
set_option maxHeartbeats 2000000 in
set_option maxRecDepth 100000 in
theorem Zi6 (s : ByteArray) (M : Nat) (p : Int) (w : World) (hM1 : 1 ≤ M) (hM2 : M < 10000000000000000000) (hp1 : -345 ≤ p) (hp2 : p ≤ 310) (u : Nat)
  (hsp : ∀ W,Calls Tryz.prog 108 #[.string s] W fun e w' => e = .returned (.tuple #[.float .f64 0,.int .i64 0,.bool false]) ∧ W = w')
  (hrd : ∀ W,Calls Tryz.prog 109 #[.string s] W fun e w' => e = .returned (.tuple #[.int .u64 M,.int .i64 p,.bool false,.bool false,.bool false,.int .i64 s.size,.bool true]) ∧ W = w')
  (hex : Calls Tryz.prog 119 #[.int .u64 M,.int .i64 p,.bool false] w fun r w' => r = .returned (.tuple #[.float .f64 u,.bool true]) ∧ w = w')
  (hopt : w.cell? ⟨7,0,none⟩ = some (.bool true)) :
  Calls Tryz.prog 106 #[.string s] w fun e w' => e = .returned (.tuple #[.float .f64 u,.int .i64 s.size,.nilIface]) ∧ Below w.heap.size w w':=by
 have HSP:=Lib.hid hsp;have HRD:=Lib.hid hrd;have HEX:=Lib.hid hex;have hb:=fun W => ZbS false W;have HB:=Lib.hid hb;(have c0 : ((M : Int) == 0) = false:=by rw [beq_eq_false_iff_ne];omega);clear hsp hrd hb hex;go_enter Tryz.func106,Tryz.ntmps106;go_wp2_with (first | (go_at_call 108;((with_reducible refine (HSP.out _).mono ?_);rintro e w' ⟨rfl,rfl⟩)) | (go_at_call 109;((with_reducible refine (HRD.out _).mono ?_);rintro e w' ⟨rfl,rfl⟩)) | (go_at_call 119;((with_reducible refine HEX.out.mono ?_);rintro e w' ⟨rfl,rfl⟩)) | (go_at_call 117;((with_reducible refine (HB.out _).mono ?_);rintro e w' ⟨rfl,rfl⟩)));go_ret3;exact ⟨rfl,by first | exact Below.refl _ _ | exact Zac (Below.refl _ _) _⟩
set_option maxHeartbeats 2000000 in
set_option maxRecDepth 100000 in
theorem ZjX (s : ByteArray) (M : Nat) (p : Int) (w : World) (hM1 : 1 ≤ M) (hM2 : M < 10000000000000000000) (hp1 : -345 ≤ p) (hp2 : p ≤ 310) (x u : Nat) (ev : Value)
  (hsp : ∀ W,Calls Tryz.prog 108 #[.string s] W fun e w' => e = .returned (.tuple #[.float .f64 0,.int .i64 0,.bool false]) ∧ W = w')
  (hrd : ∀ W,Calls Tryz.prog 109 #[.string s] W fun e w' => e = .returned (.tuple #[.int .u64 M,.int .i64 p,.bool false,.bool false,.bool false,.int .i64 s.size,.bool true]) ∧ W = w')
  (hex : Calls Tryz.prog 119 #[.int .u64 M,.int .i64 p,.bool false] w fun r w' => r = .returned (.tuple #[.float .f64 x,.bool false]) ∧ w = w')
  (hpar : Calls Tryz.prog 120 #[.int .u64 M,.int .i64 p,.int .u64 0] w fun r w' => r = .returned (.tuple #[.float .f64 u,ev]) ∧ Below w.heap.size w w')
  (hopt : w.cell? ⟨7,0,none⟩ = some (.bool true)) :
  Calls Tryz.prog 106 #[.string s] w fun e w' => e = .returned (.tuple #[.float .f64 u,.int .i64 s.size,ev]) ∧ Below w.heap.size w w':=by
 have HSP:=Lib.hid hsp;have HRD:=Lib.hid hrd;have HEX:=Lib.hid hex;have HPAR:=Lib.hid hpar;have hb:=fun W => ZbS false W;have HB:=Lib.hid hb;(have c0 : ((M : Int) == 0) = false:=by rw [beq_eq_false_iff_ne];omega);clear hsp hrd hb hex hpar;go_enter Tryz.func106,Tryz.ntmps106;go_wp2_with (first | (go_at_call 108;((with_reducible refine (HSP.out _).mono ?_);rintro e w' ⟨rfl,rfl⟩)) | (go_at_call 109;((with_reducible refine (HRD.out _).mono ?_);rintro e w' ⟨rfl,rfl⟩)) | (go_at_call 119;((with_reducible refine HEX.out.mono ?_);rintro e w' ⟨rfl,rfl⟩)) | (go_at_call 120;((with_reducible refine HPAR.out.mono ?_);rintro e w' ⟨rfl,hbel⟩)) | (go_at_call 117;((with_reducible refine (HB.out _).mono ?_);rintro e w' ⟨rfl,rfl⟩)));go_ret3;exact ⟨rfl,by first | exact hbel | exact Zac hbel _ | exact Below.refl _ _ | exact Zac (Below.refl _ _) _⟩
set_option maxHeartbeats 2000000 in
set_option maxRecDepth 100000 in
theorem ZjV (s : ByteArray) (M : Nat) (p : Int) (w : World) (hM1 : 1 ≤ M) (hM2 : M < 10000000000000000000) (hp1 : -345 ≤ p) (hp2 : p ≤ 310) (u : Nat) (ev ev2 : Value) (hu : u ≤ 9218868437227405312)
  (hsp : ∀ W,Calls Tryz.prog 108 #[.string s] W fun e w' => e = .returned (.tuple #[.float .f64 0,.int .i64 0,.bool false]) ∧ W = w')
  (hrd : ∀ W,Calls Tryz.prog 109 #[.string s] W fun e w' => e = .returned (.tuple #[.int .u64 M,.int .i64 p,.bool false,.bool true,.bool false,.int .i64 s.size,.bool true]) ∧ W = w')
  (hpar : Calls Tryz.prog 120 #[.int .u64 M,.int .i64 p,.int .u64 0] w fun r w' => r = .returned (.tuple #[.float .f64 u,ev]) ∧ Below w.heap.size w w')
  (hpar2 : ∀ W,Below w.heap.size w W → Calls Tryz.prog 120 #[.int .u64 ((M : Int) + 1),.int .i64 p,.int .u64 0] W fun r w' => r = .returned (.tuple #[.float .f64 u,ev2]) ∧ Below w.heap.size w w')
  (hopt : w.cell? ⟨7,0,none⟩ = some (.bool true)) :
  Calls Tryz.prog 106 #[.string s] w fun e w' => e = .returned (.tuple #[.float .f64 u,.int .i64 s.size,ev]) ∧ Below w.heap.size w w':=by
 have HSP:=Lib.hid hsp;have HRD:=Lib.hid hrd;have HPAR2:=Lib.hid hpar2;have ho : (FloatKind.f64.format.order u u == some .eq) = true:=(Zek u u hu hu).trans (decide_eq_true rfl);have HPAR:=Lib.hid hpar;have hb:=fun W => ZbS false W;have HB:=Lib.hid hb;(have c0 : ((M : Int) == 0) = false:=by rw [beq_eq_false_iff_ne];omega);clear hsp hrd hb hpar hpar2;go_enter Tryz.func106,Tryz.ntmps106;go_wp2_with (first | (go_at_call 108;((with_reducible refine (HSP.out _).mono ?_);rintro e w' ⟨rfl,rfl⟩)) | (go_at_call 109;((with_reducible refine (HRD.out _).mono ?_);rintro e w' ⟨rfl,rfl⟩)) | (go_at_call 120;((with_reducible refine HPAR.out.mono ?_);rintro e w' ⟨rfl,hbel⟩)) | (go_at_call 120;((with_reducible refine (HPAR2.out _ hbel).mono ?_);rintro e w' ⟨rfl,hbel2⟩)) | (go_at_call 117;((with_reducible refine (HB.out _).mono ?_);rintro e w' ⟨rfl,rfl⟩)));go_ret3;exact ⟨rfl,by first | exact hbel2 | exact Zac hbel2 _ | exact hbel | exact Zac hbel _ | exact Below.refl _ _ | exact Zac (Below.refl _ _) _⟩
def dec0 (i : Nat) : Value:=if i < 800 then .int .u8 0 else if i < 802 then .int .i64 0 else .bool false
theorem ZkG : Tryz.zeroCells146 = Array.replicate 800 (.int .u8 0) ++ #[.int .i64 0,.int .i64 0,.bool false,.bool false]:=by kernel_rfl
theorem arr0 (w : World) : Arr (w.alloc (.cells Tryz.zeroCells146 146)) w.heap.size dec0:=by
 refine ⟨fun i hi => ?_,fun i hi => ?_⟩
 ·rw [Zbq (Zer w _) i,ZkG];unfold dec0;by_cases h : i < 800
  ·rw [if_pos h,Array.getElem?_append_left (by simpa using h),Array.getElem?_replicate,if_pos h]
  ·rw [if_neg h,Array.getElem?_append_right (by simp;omega)];(have hi4 : i = 800 ∨ i = 801 ∨ i = 802 ∨ i = 803:=by omega);rcases hi4 with rfl | rfl | rfl | rfl <;> simp
 ·exact ZbF (Zer w _) i
structure SetAt (w : World) (B : Nat) (w' : World) (ds : List Nat) (dp : Int) : Prop where mk ::
 out : ∃ f,Arr w' B f ∧ Dec f ds dp false false
 bel : Below w.heap.size w w'
set_option maxHeartbeats 2000000 in
set_option maxRecDepth 100000 in
theorem ZjU (s : ByteArray) (M : Nat) (p : Int) (w : World) (hM1 : 1 ≤ M) (hM2 : M < 10000000000000000000) (hp1 : -345 ≤ p) (hp2 : p ≤ 310) (u v A C : Nat) (ds : List Nat) (dp : Int) (ev ev2 : Value) (hu : u ≤ 9218868437227405312) (hv : v ≤ 9218868437227405312) (hne : u ≠ v)
  (hsp : ∀ W,Calls Tryz.prog 108 #[.string s] W fun e w' => e = .returned (.tuple #[.float .f64 0,.int .i64 0,.bool false]) ∧ W = w')
  (hrd : ∀ W,Calls Tryz.prog 109 #[.string s] W fun e w' => e = .returned (.tuple #[.int .u64 M,.int .i64 p,.bool false,.bool true,.bool false,.int .i64 s.size,.bool true]) ∧ W = w')
  (hpar : Calls Tryz.prog 120 #[.int .u64 M,.int .i64 p,.int .u64 0] w fun r w' => r = .returned (.tuple #[.float .f64 u,ev]) ∧ Below w.heap.size w w')
  (hpar2 : ∀ W,Below w.heap.size w W → Calls Tryz.prog 120 #[.int .u64 ((M : Int) + 1),.int .i64 p,.int .u64 0] W fun r w' => r = .returned (.tuple #[.float .f64 v,ev2]) ∧ Below w.heap.size w w')
  (hset : ∀ W,Below w.heap.size w W → Calls Tryz.prog 115 #[.pointer (some ⟨W.heap.size,0,none⟩),.string s] (W.alloc (.cells Tryz.zeroCells146 146)) fun e w' => e = .returned (.bool true) ∧ SetAt w W.heap.size w' ds dp)
  (hfl : ∀ B w1,w.heap.size ≤ B → SetAt w B w1 ds dp → Calls Tryz.prog 116 #[.pointer (some ⟨B,0,none⟩),.pointer (some ⟨8,0,none⟩)] w1 fun e w' => ∃ (x : Nat) (ov : Bool),e = .returned (.tuple #[.int .u64 x,.bool ov]) ∧ ZbB A C 0 x ∧ Below w.heap.size w w')
  (hopt : w.cell? ⟨7,0,none⟩ = some (.bool true)) :
  Calls Tryz.prog 106 #[.string s] w fun e w' => (∃ (x : Nat) (er : Value),e = .returned (.tuple #[.float .f64 x,.int .i64 s.size,er]) ∧ Zgw er ∧ ZbB A C 0 x) ∧ Below w.heap.size w w':=by
 have HSP:=Lib.hid hsp;have HRD:=Lib.hid hrd;have HPAR2:=Lib.hid hpar2;have HSET:=Lib.hid hset;have HFL:=Lib.hid hfl;have ho : (FloatKind.f64.format.order u v == some .eq) = false:=(Zek u v hu hv).trans (decide_eq_false hne);have HPAR:=Lib.hid hpar;have hb:=fun W => ZbS false W;have HB:=Lib.hid hb;(have c0 : ((M : Int) == 0) = false:=by rw [beq_eq_false_iff_ne];omega);clear hsp hrd hb hpar hpar2 hset hfl;have hfb:=fun (x : Nat) => Zb8 (x : Int) x (Int.toNat_natCast x);go_enter Tryz.func106,Tryz.ntmps106;go_wp2_with (first | (go_at_call 108;((with_reducible refine (HSP.out _).mono ?_);rintro e w' ⟨rfl,rfl⟩)) | (go_at_call 109;((with_reducible refine (HRD.out _).mono ?_);rintro e w' ⟨rfl,rfl⟩)) | (go_at_call 120;((with_reducible refine HPAR.out.mono ?_);rintro e w' ⟨rfl,hbel⟩)) | (go_at_call 120;((with_reducible refine (HPAR2.out _ hbel).mono ?_);rintro e w' ⟨rfl,hbel2⟩)) | (go_at_call 115;((with_reducible refine (HSET.out _ hbel2).mono ?_);rintro e w' ⟨rfl,hset⟩)) | (go_at_call 116;((with_reducible refine (HFL.out _ _ hbel2.size hset).mono ?_);rintro e w' ⟨x,ov,rfl,hx,hbel3⟩)) | (go_at_call 117;((with_reducible refine (HB.out _).mono ?_);rintro e w' ⟨rfl,rfl⟩)))
 all_goals go_ret3
 all_goals exact ⟨⟨x,_,rfl,by first | exact .inl rfl | exact .inr rfl,hx⟩,by first | exact hbel3 | exact Zac hbel3 _⟩
structure Tabs (w : World) (B : Nat) : Prop where mk ::
 info : Zea w B
 tens : Tens w B
 pow : Zj1 w B
 cheats : Zc7 w B
 tab : Tab9 w B
 oblk : 7 < B
 opt : w.cell? ⟨7,0,none⟩ = some (.bool true)
theorem Tabs.below {w w' : World} {B : Nat} (h : Tabs w B) (hb : Below B w w') : Tabs w' B :=
 ⟨h.info.below hb,h.tens.below hb,h.pow.below hb,h.cheats.below hb,h.tab.below hb,h.oblk,(hb.cell (p:=⟨_,0,none⟩) h.oblk).trans h.opt⟩
theorem Zea.up {w : World} {B C : Nat} (h : Zea w B) (hc : B ≤ C) : Zea w C:=⟨Nat.lt_of_lt_of_le h.blk hc,h.mant,h.exp,h.bias⟩
theorem Tab9.up {w : World} {B C : Nat} (h : Tab9 w B) (hc : B ≤ C) : Tab9 w C:=by
 obtain ⟨tb,tq,tc,h1,h2,h3⟩:=h;exact ⟨tb,tq,tc,by omega,by omega,h3⟩
theorem Zc7.up {w : World} {B C : Nat} (h : Zc7 w B) (hc : B ≤ C) : Zc7 w C:=by
 obtain ⟨lb,lo,lc,h1,h2,h3⟩:=h;exact ⟨lb,lo,lc,by omega,by omega,h3⟩
theorem Znq : Dec dec0 [] 0 false false:=by
 refine ⟨fun i hi => by simp at hi,fun i => by simp,by simp,rfl,rfl,rfl,rfl⟩
theorem Zfr (s : ByteArray) (D M t : Nat) (E p dp : Int) (T : Bool) (ds : List Nat) (w : World) (B : Nat) (hB : B ≤ w.heap.size) (ht : Tabs w B) (hr : Read D M t E p T) (hD : D < 10 ^ 60) (hp1 : -10000 ≤ p) (hp2 : p ≤ 10000)
  (h0 : ds.getD 0 0 ≠ 0) (hten : ∀ i,ds.getD i 0 < 10) (hl : ds.length ≤ 60) (hnum : numL ds = D) (hdp : dp = ds.length + E)
  (hsp : ∀ W,Calls Tryz.prog 108 #[.string s] W fun e w' => e = .returned (.tuple #[.float .f64 0,.int .i64 0,.bool false]) ∧ W = w')
  (hrd : ∀ W,Calls Tryz.prog 109 #[.string s] W fun e w' => e = .returned (.tuple #[.int .u64 M,.int .i64 p,.bool false,.bool T,.bool false,.int .i64 s.size,.bool true]) ∧ W = w')
  (hset : ∀ (C : Nat) (f : Nat → Value) (W : World),Arr W C f → Dec f [] 0 false false → Calls Tryz.prog 115 #[.pointer (some ⟨C,0,none⟩),.string s] W fun e w' => e = .returned (.bool true) ∧ Made C W w' ds dp false false) :
  Calls Tryz.prog 106 #[.string s] w fun e w' => (∃ (x : Nat) (er : Value),e = .returned (.tuple #[.float .f64 x,.int .i64 s.size,er]) ∧ Zgw er ∧ ZbB (D * 10 ^ E.toNat) (10 ^ (-E).toNat) 0 x) ∧ Below w.heap.size w w':=by
 have hopt:=ht.opt;rcases Int.lt_or_le 310 p with hp | hp
 ·refine (Zi5 s M p T w hr.m1 hr.m2 hp hsp hrd hopt).mono ?_;rintro e w' ⟨rfl,hb⟩;exact ⟨⟨9218868437227405312,_,rfl,.inr rfl,hr.great hp⟩,hb⟩
 ·rcases Int.lt_or_le p (-345) with hq | hq
  ·refine (Zi3 s M p T w hr.m1 hr.m2 hq hp1 hsp hrd hopt).mono ?_;rintro e w' ⟨rfl,hb⟩;exact ⟨⟨0,_,rfl,.inl rfl,hr.small hq⟩,hb⟩
  ·have hm2:=hr.m2;obtain ⟨u,ev,e1,e2,e3⟩:=Zf5 M p hr.m1 (by omega) (by omega) (by omega)
   cases T with
   | false =>
    obtain ⟨x,ok,x1,x2⟩:=ZjG M p w B hr.m1 (by omega) (by omega) ht.info ht.tens
    cases ok with
    | true =>
     refine (Zi6 s M p w hr.m1 hr.m2 hq hp x hsp hrd x2 hopt).mono ?_;rintro e w' ⟨rfl,hb⟩;exact ⟨⟨x,_,rfl,.inl rfl,hr.same (x1 rfl)⟩,hb⟩
    | false =>
     refine (ZjX s M p w hr.m1 hr.m2 hq hp x u ev hsp hrd x2 (e3 w B hB ht.pow) hopt).mono ?_;rintro e w' ⟨rfl,hb⟩;exact ⟨⟨u,_,rfl,e1,hr.same e2⟩,hb⟩
   | true =>
    obtain ⟨v,ev2,f1,f2,f3⟩:=Zf5 (M + 1) p (by omega) (by omega) (by omega) (by omega)
    have hpar2 : ∀ W,Below w.heap.size w W → Calls Tryz.prog 120 #[.int .u64 ((M : Int) + 1),.int .i64 p,.int .u64 0] W fun r w' => r = .returned (.tuple #[.float .f64 v,ev2]) ∧ Below w.heap.size w w':=by
     intro W hb;have hWs : w.heap.size ≤ W.heap.size:=hb.size;have h:=f3 W B (Nat.le_trans hB hWs) (ht.pow.below (hb.mono hB));rw [show ((M + 1 : Nat) : Int) = (M : Int) + 1 from rfl] at h;refine h.mono ?_;rintro r w' ⟨rfl,hb2⟩;exact ⟨rfl,hb.trans (hb2.mono hWs)⟩
    rcases Nat.decEq u v with huv | huv
    ·have hn:=hr.num hD hq e2 f2 huv;have hv : Val ds dp D 0 E:=⟨0,0,0,0,by omega,by omega,by rw [hnum]⟩;have hpt:=Num.Ziv hn hten h0 hv;refine ZjU s M p w hr.m1 hr.m2 hq hp u v _ _ ds dp ev ev2 (ZeJ e2) (ZeJ f2) huv hsp hrd (e3 w B hB ht.pow) hpar2 ?_ ?_ hopt
     ·intro W hb;have hWs : w.heap.size ≤ W.heap.size:=hb.size;refine (hset W.heap.size dec0 _ (arr0 W) Znq).mono ?_;rintro e w' ⟨rfl,f,ha,hd,hbel⟩;exact ⟨rfl,⟨f,ha,hd⟩,(hb.alloc hWs _).trans (hbel.mono hWs)⟩
     ·rintro C w1 hC ⟨⟨f,ha,hd⟩,hbel⟩;have hBC:=Nat.le_trans hB hC;have hb1:=hbel.mono hB;refine (Zgo C D E f ds dp w1 ((ht.cheats.below hb1).up hBC) ((ht.tab.below hb1).up hBC) ((ht.info.below hb1).up hBC) ha hd h0 hl hn hv hpt.1 hpt.2).mono ?_;rintro e w' ⟨x,ov,rfl,hx,hb2⟩;exact ⟨x,ov,rfl,hx,hbel.trans (hb2.mono hC)⟩
    ·subst huv;refine (ZjV s M p w hr.m1 hr.m2 hq hp u ev ev2 (ZeJ e2) hsp hrd (e3 w B hB ht.pow) hpar2 hopt).mono ?_;rintro e w' ⟨rfl,hb⟩;exact ⟨⟨u,_,rfl,e1,hr.between e2 f2⟩,hb⟩
theorem byte_at (s : ByteArray) (k : Nat) (h : k < s.size) : s.data.toList[k]? = some s[k]:=by
 rw [Array.getElem?_toList];exact Array.getElem?_eq_getElem (show k < s.data.size from h)
theorem ZgO {α : Type} (a : α) (l : List α) (n : Nat) (h : 1 ≤ n) : (a :: l).take n = a :: l.take (n - 1):=by
 obtain ⟨m,rfl⟩ : ∃ m,n = m + 1:=⟨n - 1,by omega⟩;rfl
theorem num_ge (c : UInt8) (l : List UInt8) (h : 49 ≤ c.toNat) : 10 ^ l.length ≤ num (c :: l):=by
 have e : num (c :: l) = (0 * 10 + (c.toNat - 48)) * 10 ^ l.length + num l:=Zhz l _;rw [e];have : 1 * 10 ^ l.length ≤ (0 * 10 + (c.toNat - 48)) * 10 ^ l.length:=Nat.mul_le_mul_right _ (by omega);omega
structure Text (s : ByteArray) (n : Nat) (E : Int) : Prop where mk ::
 read : Read (num (s.data.toList.take n)) (num (s.data.toList.take (min n 19))) (n - min n 19) E (E + (n - min n 19 : Nat)) (lost (s.data.toList.take n))
 few : num (s.data.toList.take n) < 10 ^ 60
 top : (digs s n).getD 0 0 ≠ 0
 ten : ∀ i,(digs s n).getD i 0 < 10
 len : (digs s n).length = n
theorem ZlU (s : ByteArray) (n : Nat) (E : Int) (hn1 : 1 ≤ n) (hn2 : n ≤ 60) (hs : n < s.size) (hdig : ∀ k (h : k < s.size),k < n → 48 ≤ s[k].toNat ∧ s[k].toNat ≤ 57) (hfirst : s[0].toNat ≠ 48) : Text s n E:=by
 have hlen : (s.data.toList.take n).length = n:=by
  rw [List.length_take,Nat.min_eq_left];exact Nat.le_of_lt (by simpa using hs)
 have hall : ∀ c ∈ s.data.toList.take n,c.toNat ≤ 57:=by
  intro c hc;obtain ⟨i,hi⟩:=List.getElem?_of_mem hc
  have hin : i < n:=by
   have:=(List.getElem?_eq_some_iff.1 hi).1;omega
  rw [List.getElem?_take_of_lt hin,byte_at s i (by omega)] at hi;have:=hdig i (by omega) hin;rw [Option.some.inj hi] at this;exact this.2
 have htake : s.data.toList.take (min n 19) = (s.data.toList.take n).take (min (s.data.toList.take n).length 19):=by
  rw [hlen,List.take_take]
  congr 1
  omega
 have h0:=hdig 0 (by omega) (by omega)
 obtain ⟨l,hl⟩ : ∃ l,s.data.toList.take n = s[0] :: l:=by
  have h:=byte_at s 0 (by omega);rcases hL : s.data.toList with _ | ⟨c,l⟩
  ·rw [hL] at h;exact absurd h (by simp)
  ·rw [hL] at h;(have : c = s[0]:=by simpa using h);rw [this];exact ⟨l.take (n - 1),ZgO _ _ _ hn1⟩
 (have hlenl : l.length + 1 = n:=by rw [hl] at hlen;exact hlen);obtain ⟨r,e1,e2,e3⟩:=ZmF _ hall;rw [← htake,hlen] at e1;rw [hlen] at e2;have hmin : min n 19 ≤ 19:=Nat.min_le_right _ _;have hmin1 : 1 ≤ min n 19:=Nat.le_min.2 ⟨hn1,by omega⟩
 have hl1 : s.data.toList.take (min n 19) = s[0] :: l.take (min n 19 - 1):=by
  rw [htake,hlen,hl];exact ZgO _ _ _ hmin1
 have hge:=num_ge s[0] (l.take (min n 19 - 1)) (by omega);rw [← hl1,List.length_take,Nat.min_eq_left (by omega)] at hge
 have hM2 : num (s.data.toList.take (min n 19)) < 10 ^ 19:=by
  have h:=Zdv (s.data.toList.take (min n 19)) (fun c hc => hall c (by rw [htake] at hc;exact List.mem_of_mem_take hc));refine Nat.lt_of_lt_of_le h (Nat.pow_le_pow_right (by omega) ?_);rw [List.length_take];exact Nat.le_trans (Nat.min_le_left _ _) hmin
 refine ⟨⟨Nat.le_trans (ZcF _) hge,hM2,rfl,by omega,?_,fun h => by rw [e1,e3 h,Nat.add_zero],fun h => ?_⟩,?_,?_,?_,Zdq s n (by omega)⟩
 ·rw [e1,Nat.add_mul];omega
 ·have hn : 19 < n:=by
   rcases Nat.lt_or_ge 19 n with h' | h'
   ·exact h'
   ·exfalso;unfold lost at h;rw [List.drop_of_length_le (by omega)] at h;exact absurd h (by simp)
  rw [Nat.min_eq_right (by omega)] at hge ⊢;exact hge
 ·have h:=Zdv _ hall;rw [hlen] at h;exact Nat.lt_of_lt_of_le h (Nat.pow_le_pow_right (by omega) hn2)
 ·unfold digs;rw [hl];show s[0].toNat - 48 ≠ 0;omega
 ·intro i;unfold digs;rw [List.getD_eq_getElem?_getD,List.getElem?_map];rcases hc : (s.data.toList.take n)[i]? with _ | c
  ·simp
  ·have:=hall c (List.mem_of_getElem? hc);simp;omega
theorem Zi4 (s : ByteArray) (n ev : Nat) (w : World) (B : Nat) (hB : B ≤ w.heap.size) (ht : Tabs w B) (hn1 : 1 ≤ n) (hn2 : n ≤ 60) (hsz1 : n + 2 < s.size) (hsz2 : s.size ≤ n + 5)
  (hdig : ∀ k (h : k < s.size),k < n → 48 ≤ s[k].toNat ∧ s[k].toNat ≤ 57) (hfirst : s[0].toNat ≠ 48) (he : s[n].toNat = 101) (hneg : s[n + 1].toNat = 45)
  (hexp : ∀ k (h : k < s.size),n + 2 ≤ k → 48 ≤ s[k].toNat ∧ s[k].toNat ≤ 57)
  (hev : num (s.data.toList.drop (n + 2)) = ev) (hev2 : ev ≤ 1000) :
  Calls Tryz.prog 106 #[.string s] w fun e w' => (∃ (x : Nat) (er : Value),e = .returned (.tuple #[.float .f64 x,.int .i64 s.size,er]) ∧ Zgw er ∧ ZbB (num (s.data.toList.take n) * 10 ^ (-(ev : Int)).toNat) (10 ^ (- -(ev : Int)).toNat) 0 x) ∧ Below w.heap.size w w':=by
 have htx:=ZlU s n (-(ev : Int)) hn1 hn2 (by omega) hdig hfirst;have h0:=hdig 0 (by omega) (by omega);have hm:=Nat.min_le_left n 19;(have ep : (n : Int) - ev - (min n 19 : Nat) = -(ev : Int) + (n - min n 19 : Nat):=by omega);refine Zfr s _ _ _ _ _ ((n : Int) - ev) _ (digs s n) w B hB ht htx.read htx.few (by omega) (by omega) htx.top htx.ten (by rw [htx.len];exact hn2) (ZiA s n) (by rw [htx.len];omega) ?_ ?_ ?_
 ·exact fun W => ZcJ s W (by omega) h0.1 h0.2 (by omega)
 ·intro W;have h:=Zf2 s n ev _ _ W hn1 hn2 hsz1 hsz2 hdig hfirst he hneg hexp rfl rfl hev (by have:=htx.read.m1;omega);rw [ep] at h;exact h
 ·exact fun C f W ha hd => Zl7 C f s n ev W ha hd hn1 hn2 hsz1 hsz2 hdig hfirst he hneg hexp hev
theorem ZjW (s : ByteArray) (n ev : Nat) (w : World) (B : Nat) (hB : B ≤ w.heap.size) (ht : Tabs w B) (hn1 : 1 ≤ n) (hn2 : n ≤ 60) (hsz1 : n + 1 < s.size) (hsz2 : s.size ≤ n + 4)
  (hdig : ∀ k (h : k < s.size),k < n → 48 ≤ s[k].toNat ∧ s[k].toNat ≤ 57) (hfirst : s[0].toNat ≠ 48) (he : s[n].toNat = 101)
  (hexp : ∀ k (h : k < s.size),n + 1 ≤ k → 48 ≤ s[k].toNat ∧ s[k].toNat ≤ 57)
  (hev : num (s.data.toList.drop (n + 1)) = ev) (hev2 : ev ≤ 1000) :
  Calls Tryz.prog 106 #[.string s] w fun e w' => (∃ (x : Nat) (er : Value),e = .returned (.tuple #[.float .f64 x,.int .i64 s.size,er]) ∧ Zgw er ∧ ZbB (num (s.data.toList.take n) * 10 ^ (ev : Int).toNat) (10 ^ (-(ev : Int)).toNat) 0 x) ∧ Below w.heap.size w w':=by
 have htx:=ZlU s n (ev : Int) hn1 hn2 (by omega) hdig hfirst;have h0:=hdig 0 (by omega) (by omega);have hm:=Nat.min_le_left n 19;(have ep : (n : Int) + ev - (min n 19 : Nat) = (ev : Int) + (n - min n 19 : Nat):=by omega);refine Zfr s _ _ _ _ _ ((n : Int) + ev) _ (digs s n) w B hB ht htx.read htx.few (by omega) (by omega) htx.top htx.ten (by rw [htx.len];exact hn2) (ZiA s n) (by rw [htx.len]) ?_ ?_ ?_
 ·exact fun W => ZcJ s W (by omega) h0.1 h0.2 (by omega)
 ·intro W;have h:=ZgC s n ev _ _ W hn1 hn2 hsz1 hsz2 hdig hfirst he hexp rfl rfl hev (by have:=htx.read.m1;omega);rw [ep] at h;exact h
 ·exact fun C f W ha hd => Zn5 C f s n ev W ha hd hn1 hn2 hsz1 hsz2 hdig hfirst he hexp hev
set_option maxHeartbeats 2000000 in
set_option maxRecDepth 100000 in
theorem Zgt (s : ByteArray) (w : World)
  (hsp : ∀ W,Calls Tryz.prog 108 #[.string s] W fun e w' => e = .returned (.tuple #[.float .f64 0,.int .i64 0,.bool false]) ∧ W = w')
  (hrd : ∀ W,Calls Tryz.prog 109 #[.string s] W fun e w' => e = .returned (.tuple #[.int .u64 0,.int .i64 0,.bool false,.bool false,.bool false,.int .i64 s.size,.bool true]) ∧ W = w')
  (hopt : w.cell? ⟨7,0,none⟩ = some (.bool true)) :
  Calls Tryz.prog 106 #[.string s] w fun e w' => e = .returned (.tuple #[.float .f64 0,.int .i64 s.size,.nilIface]) ∧ Below w.heap.size w w':=by
 have HSP:=Lib.hid hsp;have HRD:=Lib.hid hrd;have hb:=fun W => ZbS false W;have HB:=Lib.hid hb;have h2:=Zb8 0 0 (by decide);(have u5 : Go.bits .or .u64 0 0 = 0:=by decide);clear hsp hrd hb;go_enter Tryz.func106,Tryz.ntmps106;go_wp2_with (first | (go_at_call 108;((with_reducible refine (HSP.out _).mono ?_);rintro e w' ⟨rfl,rfl⟩)) | (go_at_call 109;((with_reducible refine (HRD.out _).mono ?_);rintro e w' ⟨rfl,rfl⟩)) | (go_at_call 117;((with_reducible refine (HB.out _).mono ?_);rintro e w' ⟨rfl,rfl⟩)));go_ret3;exact ⟨rfl,by first | exact Below.refl _ _ | exact Zac (Below.refl _ _) _⟩
theorem Ze8 (s : ByteArray) (w : World) (Q : Nat → Value → Prop)
  (hat : Calls Tryz.prog 106 #[.string s] w fun e w' => (∃ (x : Nat) (er : Value),e = .returned (.tuple #[.float .f64 x,.int .i64 s.size,er]) ∧ Q x er) ∧ Below w.heap.size w w') :
  Calls Tryz.prog 96 #[.string s,.int .i64 64] w fun e w' => (∃ (x : Nat) (er : Value),e = .returned (.tuple #[.float .f64 x,.int .i64 s.size,er]) ∧ Q x er) ∧ Below w.heap.size w w':=by
 have HAT:=Lib.hid hat;clear hat;go_enter Tryz.func96,Tryz.ntmps96;go_wp2_with (go_at_call 106;((with_reducible refine HAT.out.mono ?_);rintro e w' ⟨⟨x,er,rfl,hq⟩,hb⟩))
 all_goals go_ret3
 all_goals exact ⟨⟨x,er,rfl,hq⟩,by first | exact hb | exact Zac hb _⟩
theorem Zhv (s : ByteArray) (w : World) (Q : Nat → Value → Prop)
  (hpf : Calls Tryz.prog 96 #[.string s,.int .i64 64] w fun e w' => (∃ (x : Nat) (er : Value),e = .returned (.tuple #[.float .f64 x,.int .i64 s.size,er]) ∧ Q x er) ∧ Below w.heap.size w w') :
  Calls Tryz.prog 81 #[.string s,.int .i64 64] w fun e w' => (∃ (x : Nat) (er : Value),e = .returned (.tuple #[.float .f64 x,er]) ∧ Q x er) ∧ Below w.heap.size w w':=by
 have HPF:=Lib.hid hpf;clear hpf;go_enter Tryz.func81,Tryz.ntmps81;go_wp2_with (go_at_call 96;((with_reducible refine HPF.out.mono ?_);rintro e w' ⟨⟨x,er,rfl,hq⟩,hb⟩))
 all_goals go_ret2
 all_goals exact ⟨⟨x,er,rfl,hq⟩,by first | exact hb | exact Zac hb _⟩
theorem ZkJ (x : Nat) (w : World) (hx : x ≤ 9218868437227405312) : Calls Tryz.prog 66 #[.float .f64 x] w fun e w' => e = .returned (.int .u64 x) ∧ w = w':=by
 have hc : ∀ W,(callFunc 82 #[.float .f64 x]).run Tryz.prog W = .ok (.value (.int .u64 x)) W:=fun W => by
  rw [run_callFunc_extern Tryz.func82 (by kernel_rfl) (by kernel_rfl) (by kernel_rfl) (e:=Extern.MathFloatBits.float64bits) (by kernel_rfl)];rfl
 have ho : (FloatKind.f64.format.order x x != some .eq) = false:=by
  have h : (FloatKind.f64.format.order x x == some .eq) = true:=(Zek x x hx hx).trans (decide_eq_true rfl);show (!(FloatKind.f64.format.order x x == some .eq)) = false;rw [h];rfl
 go_enter Tryz.func66,Tryz.ntmps66;go_wp2;go_ret;exact ⟨rfl,rfl⟩
theorem ZgD (s : ByteArray) (w : World) (Q : Nat → Prop) (ev : Value) (hs : s.size ≤ 1000) (hblk : 1 < w.heap.size) (hv : w.cell? ⟨1,0,none⟩ = some ev) (hev : ev = .nilIface ∨ ∃ te pe,ev = .iface te pe)
  (hpf : Calls Tryz.prog 81 #[.string s,.int .i64 64] w fun e w' => (∃ (x : Nat) (er : Value),e = .returned (.tuple #[.float .f64 x,er]) ∧ Zgw er ∧ Q x) ∧ Below w.heap.size w w') :
  Calls Tryz.prog 64 #[.string s,.int .i64 64] w fun e w' => (∃ (x : Nat) (er : Value),e = .returned (.tuple #[.float .f64 x,er]) ∧ Q x) ∧ Below w.heap.size w w':=by
 have HPF:=Lib.hid hpf;clear hpf;go_enter Tryz.func64,Tryz.ntmps64;go_wp2_with (first | (go_at_call 81;((with_reducible refine HPF.out.mono ?_);rintro e w' ⟨⟨x,er,rfl,(rfl | rfl),hq⟩,hb⟩)) | (go_at_call 58;((with_reducible refine (Tryz.strconv_toError_range _ _ _ _ ev _ (by omega) ((hb.cell (p:=⟨_,0,none⟩) hblk).trans hv) hev).mono ?_);rintro e w' ⟨N,rfl,_,_,hb2⟩)))
 all_goals go_ret2
 all_goals exact ⟨⟨x,_,rfl,hq⟩,by first | exact hb | exact hb.trans (hb2.mono hb.size) | exact Zac hb _ | exact Zac (hb.trans (hb2.mono hb.size)) _⟩
end Go.Proofs.YtfoekmfpcahmiabGreatDoor.SF
