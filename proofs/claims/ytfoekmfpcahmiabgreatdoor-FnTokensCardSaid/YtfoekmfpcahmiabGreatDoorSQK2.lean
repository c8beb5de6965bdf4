/- Walks of the library's number reading: small functions. -/
import Derived.Test.YtfoekmfpcahmiabGreatDoorSQShelf
import Derived.Test.YtfoekmfpcahmiabGreatDoorSQK1
import Derived.WalkLawsBesides
namespace Go.Proofs.YtfoekmfpcahmiabGreatDoor.SF
open Go.RowKit YtfoekmfpcahmiabGreatDoorW.PrintWords CB
theorem Zb8 (n : Int) (m : Nat) (h : n.toNat = m) (W : World) : (callFunc 118 #[.int .u64 n]).run Tryz.prog W = .ok (.value (.float .f64 m)) W:=by
 subst h;rw [run_callFunc_extern Tryz.func118 (by kernel_rfl) (by kernel_rfl) (by kernel_rfl) (e:=Extern.MathFloatBits.float64frombits) (by kernel_rfl)];rfl
theorem ZjR (w : World) : Calls Tryz.prog 117 #[.bool true] w fun e w' => e = .returned (.int .u64 1) ∧ w = w':=by
 go_enter Tryz.func117,Tryz.ntmps117;go_wp2;go_ret;exact ⟨rfl,rfl⟩
theorem Zi0 (w : World) : Calls Tryz.prog 117 #[.bool false] w fun e w' => e = .returned (.int .u64 0) ∧ w = w':=by
 go_enter Tryz.func117,Tryz.ntmps117;go_wp2;go_ret;exact ⟨rfl,rfl⟩
theorem ZdH (p : Int) (w : World) (h1 : -10000 ≤ p) (h2 : p ≤ 10000) : Calls Tryz.prog 129 #[.int .i64 p] w fun e w' => e = .returned (.int .i64 (US.lp p)) ∧ w = w':=by
 go_enter Tryz.func129,Tryz.ntmps129;go_wp2;go_ret;exact ⟨rfl,rfl⟩
theorem Zjb (w : World) : Calls Tryz.prog 133 #[.int .u64 9007199254740992] w fun e w' => e = .returned (.int .u64 36028797018963966) ∧ w = w':=by
 go_enter Tryz.func133,Tryz.ntmps133;go_wp2;go_ret;exact ⟨rfl,rfl⟩
theorem Zjn (u : Nat) (w : World) (h : u < 9223372036854775808) : Calls Tryz.prog 135 #[.int .u64 u] w fun e w' => e = .returned (.int .u64 ((u + 1 + u / 4 % 2) / 4 : Nat)) ∧ w = w':=by
 have h1:=ZdP (u / 4) 1 (by omega) (by omega);rw [Nat.and_one_is_mod,show ((u / 4 : Nat) : Int) = (u : Int) / 4 by omega,show ((1 : Nat) : Int) = 1 from rfl,show ((u / 4 % 2 : Nat) : Int) = (u : Int) / 4 % 2 by omega] at h1;(have h2 : IntKind.u64.wrap ((u : Int) + 1 + (u : Int) / 4 % 2) = (u : Int) + 1 + (u : Int) / 4 % 2:=by rw [wu64];omega);go_enter Tryz.func135,Tryz.ntmps135;go_wp2;go_ret;exact ⟨congrArg (fun z => Ending.returned (.int .u64 z)) (by simp),rfl⟩
theorem ZbS (b : Bool) (w : World) : Calls Tryz.prog 117 #[.bool b] w fun e w' => e = .returned (.int .u64 (b.toNat : Nat)) ∧ w = w':=by
 cases b
 ·exact Zi0 w
 ·exact ZjR w
theorem ZcT (s : Nat) : ((2 ^ s : Nat) : Int) = (2 : Int) ^ s:=by rw [Int.natCast_pow];rfl
theorem Zky (h s : Nat) (hh : h < 18446744073709551616) : (IntKind.u64.wrap ((h : Int) / 2 ^ s * 2 ^ s) != (h : Int)) = decide (h % 2 ^ s ≠ 0):=by
 (have e1 : (h : Int) / 2 ^ s * 2 ^ s = ((h / 2 ^ s * 2 ^ s : Nat) : Int):=by rw [Int.natCast_mul,Int.natCast_ediv,ZcT]);have hd:=Nat.div_add_mod h (2 ^ s);rw [Nat.mul_comm] at hd;rw [e1,wu64];by_cases hz : h % 2 ^ s = 0
 ·rw [decide_eq_false (by omega)];simp;omega
 ·rw [decide_eq_true hz];simp;omega
theorem ZmC (h s b : Nat) (hh : h < 18446744073709551616) (hb : b < 18446744073709551616) : Go.bits .or .u64 ((h : Int) / 2 ^ s) (b : Int) = ((h / 2 ^ s ||| b : Nat) : Int):=by
 (have e1 : (h : Int) / 2 ^ s = ((h / 2 ^ s : Nat) : Int):=by rw [Int.natCast_ediv,ZcT]);rw [e1];exact Ziz _ _ (Nat.lt_of_le_of_lt (Nat.div_le_self _ _) hh) hb
theorem ZkP (x hi h mid s b : Nat) (w : World) (hh : h < 18446744073709551616) (hs : s < 64)
  (HM : ∀ W,Calls Tryz.prog 142 #[.int .u64 x,.int .u64 hi] W fun e w' => e = .returned (.tuple #[.int .u64 h,.int .u64 mid]) ∧ W = w')
  (c0 : w.cell? ⟨b,0,none⟩ = some (.int .u64 hi)) (c2 : w.cell? ⟨b,2,none⟩ = some (.int .i64 s)) (hr : h % 2 ^ s ≠ 0) :
  Calls Tryz.prog 131 #[.int .u64 x,.pointer (some ⟨b,0,none⟩)] w fun e w' => e = .returned (.int .u64 (h / 2 ^ s ||| 1 : Nat)) ∧ w = w':=by
 have hs63:=ZjY s 63 (by omega) (by omega);rw [show s &&& 63 = s from (mask s 6).trans (Nat.mod_eq_of_lt (by omega)),show ((63 : Nat) : Int) = 63 from rfl] at hs63;have hc:=Zky h s hh;rw [decide_eq_true hr] at hc;have ho:=ZmC h s 1 hh (by omega);rw [show ((1 : Nat) : Int) = 1 from rfl] at ho;have HM':=Lib.hid HM;clear HM hr;go_enter Tryz.func131,Tryz.ntmps131;go_wp2_with (go_at_call 142;refine (HM'.out _).mono ?_;rintro e w' ⟨rfl,rfl⟩);go_ret;exact ⟨rfl,rfl⟩
theorem ZkO (x hi lo h mid m2 q s b : Nat) (u : Int) (w : World) (hh : h < 18446744073709551616) (hmid : mid < 18446744073709551616) (hm2 : m2 < 18446744073709551616) (hs : s < 64)
  (HM : ∀ W,Calls Tryz.prog 142 #[.int .u64 x,.int .u64 hi] W fun e w' => e = .returned (.tuple #[.int .u64 h,.int .u64 mid]) ∧ W = w')
  (HL : ∀ W,Calls Tryz.prog 142 #[.int .u64 x,.int .u64 lo] W fun e w' => e = .returned (.tuple #[.int .u64 m2,.int .u64 q]) ∧ W = w')
  (c0 : w.cell? ⟨b,0,none⟩ = some (.int .u64 hi)) (c1 : w.cell? ⟨b,1,none⟩ = some (.int .u64 lo)) (c2 : w.cell? ⟨b,2,none⟩ = some (.int .i64 s)) (hr : h % 2 ^ s = 0)
  (v : Nat) (hv : v = if mid < m2 then h - 1 else h) (hpos : mid < m2 → 1 ≤ h) (hu : u = (v / 2 ^ s ||| (if 1 < (mid + 18446744073709551616 - m2) % 18446744073709551616 then 1 else 0) : Nat)) :
  Calls Tryz.prog 131 #[.int .u64 x,.pointer (some ⟨b,0,none⟩)] w fun e w' => e = .returned (.int .u64 u) ∧ ∃ n,w' = w.drewN n:=by
 have hs63:=ZjY s 63 (by omega) (by omega);rw [show s &&& 63 = s from (mask s 6).trans (Nat.mod_eq_of_lt (by omega)),show ((63 : Nat) : Int) = 63 from rfl] at hs63;have hc:=Zky h s hh;rw [decide_eq_false (by omega)] at hc
 have hbw : IntKind.u64.wrap ((h : Int) - ((decide (mid < m2)).toNat : Nat)) = (v : Int):=by
  rw [wu64,hv];by_cases h1 : mid < m2
  ·rw [decide_eq_true (by omega),if_pos h1];have:=hpos h1;simp;omega
  ·rw [decide_eq_false (by omega),if_neg h1];simp;omega
 (have hd : IntKind.u64.wrap ((mid : Int) - (m2 : Int)) = (((mid + 18446744073709551616 - m2) % 18446744073709551616 : Nat) : Int):=by rw [wu64];omega);(have hvl : v < 18446744073709551616:=by rw [hv];split <;> omega);have ho:=ZmC v s ((decide ((1 : Int) < (((mid + 18446744073709551616 - m2) % 18446744073709551616 : Nat) : Int))).toNat) hvl (Nat.lt_of_le_of_lt (Bool.toNat_le _) (by omega))
 have HU : ((v / 2 ^ s ||| (decide ((1 : Int) < (((mid + 18446744073709551616 - m2) % 18446744073709551616 : Nat) : Int))).toNat : Nat) : Int) = u:=by
  rw [hu];by_cases h1 : 1 < (mid + 18446744073709551616 - m2) % 18446744073709551616
  ·rw [decide_eq_true (by omega),if_pos h1,Bool.toNat_true]
  ·rw [decide_eq_false (by omega),if_neg h1,Bool.toNat_false]
 rw [HU] at ho
 generalize (((mid + 18446744073709551616 - m2) % 18446744073709551616 : Nat) : Int) = dd at *
 have HM':=Lib.hid HM;have HL':=Lib.hid HL;clear HM HL hr hv hpos hu HU;go_enter Tryz.func131,Tryz.ntmps131;go_wp2_with (first | (go_at_call 142;((with_reducible refine (HM'.out _).mono ?_);rintro e w' ⟨rfl,rfl⟩)) | (go_at_call 142;((with_reducible refine (HL'.out _).mono ?_);rintro e w' ⟨rfl,rfl⟩)) | (go_at_call 117;refine (ZbS _ _).mono ?_;rintro e w' ⟨rfl,rfl⟩));go_quiet ((go_at_call 117;refine Calls.quiet_of_same ((ZbS _ _).mono fun e w' h => ⟨h.1,h.2.symm⟩)));go_wp2;go_ret;exact ⟨rfl,_,rfl⟩
theorem Zh3 (x hi lo s b : Nat) (w : World) (hx : x < 18446744073709551616) (hhi : hi < 18446744073709551616) (hlo : lo < 18446744073709551616) (hs : s < 64) (hnn : x * lo ≤ x * hi * 18446744073709551616)
  (c0 : w.cell? ⟨b,0,none⟩ = some (.int .u64 hi)) (c1 : w.cell? ⟨b,1,none⟩ = some (.int .u64 lo)) (c2 : w.cell? ⟨b,2,none⟩ = some (.int .i64 s)) :
  Calls Tryz.prog 131 #[.int .u64 x,.pointer (some ⟨b,0,none⟩)] w fun e w' => e = .returned (.int .u64 (US.usc x hi lo s : Nat)) ∧ ∃ n,w' = w.drewN n:=by
 have hxh : x * hi / 18446744073709551616 < 18446744073709551616:=Nat.div_lt_of_lt_mul (Nat.mul_lt_mul_of_lt_of_le hx (Nat.le_of_lt hhi) (by omega));have hxl : x * lo / 18446744073709551616 < 18446744073709551616:=Nat.div_lt_of_lt_mul (Nat.mul_lt_mul_of_lt_of_le hx (Nat.le_of_lt hlo) (by omega));by_cases hr : x * hi / 18446744073709551616 % 2 ^ s ≠ 0
 ·refine (ZkP x hi (x * hi / 18446744073709551616) (x * hi % 18446744073709551616) s b w hxh hs (fun W => (Tryz.bits_Mul64 x hi hx hhi W).mono fun e w' h => ⟨h.1,h.2.symm⟩) c0 c2 hr).mono ?_;rintro e w' ⟨rfl,rfl⟩;refine ⟨?_,0,rfl⟩;unfold US.usc;rw [if_pos hr]
 ·refine ZkO x hi lo (x * hi / 18446744073709551616) (x * hi % 18446744073709551616) (x * lo / 18446744073709551616) (x * lo % 18446744073709551616) s b _ w hxh (Nat.mod_lt _ (by omega)) hxl hs (fun W => (Tryz.bits_Mul64 x hi hx hhi W).mono fun e w' h => ⟨h.1,h.2.symm⟩) (fun W => (Tryz.bits_Mul64 x lo hx hlo W).mono fun e w' h => ⟨h.1,h.2.symm⟩) c0 c1 c2 (by omega) _ rfl (by omega) ?_;unfold US.usc;rw [if_neg hr]
theorem Zd6 (e p q : Int) (hi lo : Nat) (v0 v1 v2 : Value) (w : World) (hq : q = -(e + US.lp p + 3)) (hp1 : -348 ≤ p) (hp2 : p ≤ 347) (he1 : -10000 ≤ e) (he2 : e ≤ 10000) (hw : 13 < w.heap.size)
  (c0 : w.cell? ⟨13,(p + 348).toNat * 2,none⟩ = some (.int .u64 hi)) (c1 : w.cell? ⟨13,(p + 348).toNat * 2 + 1,none⟩ = some (.int .u64 lo)) :
  Calls Tryz.prog 130 #[.pointer (some ⟨w.heap.size,0,none⟩),.int .i64 e,.int .i64 p,.int .i64 (US.lp p)] (w.alloc (.cells #[v0,v1,v2] 162)) fun e w' => e = .returned (.tuple #[]) ∧ w' = w.alloc (.cells #[.int .u64 hi,.int .u64 lo,.int .i64 q] 162):=by
 (have hl1 : -100000 ≤ US.lp p:=by unfold US.lp;omega);have hl2 : US.lp p ≤ 100000:=by unfold US.lp;omega
 generalize US.lp p = lp at *
 have HQ:=Lib.hid hq;clear hq;go_enter Tryz.func130,Tryz.ntmps130;go_wp2;go_end0;exact ⟨rfl,by rw [HQ.out]⟩
def ZgE (m : Nat) (e : Int) : Nat:=if m < 4503599627370496 then m else if 972 ≤ e then 9218868437227405312 else (e + 1074).toNat * 4503599627370496 + m
def Zju (m : Nat) (e : Int) : Value:=if m < 4503599627370496 then .nilIface else if 972 ≤ e then .iface 88 (.int .i64 1) else .nilIface
theorem ZnJ (m k : Nat) : m &&& 2 ^ k = (m.testBit k).toNat * 2 ^ k:=by
 apply Nat.eq_of_testBit_eq;intro i;rw [Nat.testBit_and,Nat.testBit_two_pow];cases hb : m.testBit k
 ·rw [Bool.toNat_false,Nat.zero_mul,Nat.zero_testBit];by_cases h : k = i
  ·subst h;rw [hb];rfl
  ·rw [decide_eq_false h,Bool.and_false]
 ·rw [Bool.toNat_true,Nat.one_mul,Nat.testBit_two_pow];by_cases h : k = i
  ·subst h;rw [hb];rfl
  ·rw [decide_eq_false h,Bool.and_false]
theorem Zjc (m : Nat) (hm : m < 9007199254740992) : m &&& 4503599627370496 = if m < 4503599627370496 then 0 else 4503599627370496:=by
 (have e1 : (4503599627370496 : Nat) = 2 ^ 52:=by decide);rw [e1,ZnJ];by_cases h : m < 2 ^ 52
 ·rw [if_pos h,Nat.testBit_lt_two_pow h];rfl
 ·have : m.testBit 52 = true:=by
   rw [Nat.testBit_eq_decide_div_mod_eq,decide_eq_true_iff];omega
  rw [if_neg h,this];rfl
theorem Ziw (m : Nat) (e : Int) (w : World) (hm : m < 9007199254740992) (he1 : -1074 ≤ e) (he2 : e ≤ 10000) :
  Calls Tryz.prog 138 #[.int .u64 m,.int .i64 e] w fun r w' => r = .returned (.tuple #[.float .f64 (ZgE m e),Zju m e]) ∧ ∃ n,w' = w.drewN n:=by
 have t1:=ZdP m 4503599627370496 (by omega) (by omega);rw [Zjc m hm,show ((4503599627370496 : Nat) : Int) = 4503599627370496 from rfl] at t1;unfold ZgE Zju;by_cases h1 : m < 4503599627370496
 ·rw [if_pos h1] at t1;have h2:=Zb8 (m : Int) m (by omega);simp only [if_pos h1];rw [show ((0 : Nat) : Int) = 0 from rfl] at t1;clear h1;go_enter Tryz.func138,Tryz.ntmps138;go_wp2;go_ret2;exact ⟨rfl,0,rfl⟩
 ·rw [if_neg h1] at t1;simp only [if_neg h1];rw [show ((4503599627370496 : Nat) : Int) = 4503599627370496 from rfl] at t1;by_cases h3 : 972 ≤ e
  ·have t2:=ZdP m 9223372036854775808 (by omega) (by omega);rw [show (9223372036854775808 : Nat) = 2 ^ 63 by decide,ZnJ,Nat.testBit_lt_two_pow (by omega),show ((2 ^ 63 : Nat) : Int) = 9223372036854775808 from rfl,Bool.toNat_false,Nat.zero_mul,show ((0 : Nat) : Int) = 0 from rfl] at t2;(have t3 : Go.bits .or .u64 0 9218868437227405312 = 9218868437227405312:=by decide);have h2:=Zb8 9218868437227405312 9218868437227405312 (by decide);simp only [if_pos h3];clear h1;go_enter Tryz.func138,Tryz.ntmps138;go_wp2;go_ret2;exact ⟨rfl,0,rfl⟩
  ·simp only [if_neg h3];obtain ⟨f,rfl⟩ : ∃ f,m = 4503599627370496 + f:=⟨m - 4503599627370496,by omega⟩;(have hf : f < 4503599627370496:=by omega);have t2:=u64_andNot_nat (4503599627370496 + f) 4503599627370496 (by omega) (by omega)
   have e2 : (4503599627370496 + f) &&& (18446744073709551615 - 4503599627370496) = f:=by
    have e3 : (18446744073709551615 - 4503599627370496 : Nat) = 2 ^ 52 * 4094 ||| (2 ^ 52 - 1):=by decide
    have e4 : (4503599627370496 + f) &&& 2 ^ 52 * 4094 = 0:=by
     (have e5 : 4503599627370496 + f = 2 ^ 52 * 1 + f:=by omega);rw [e5,Nat.and_comm];apply Nat.eq_of_testBit_eq;intro i;rw [Nat.testBit_and,Nat.zero_testBit,Nat.testBit_two_pow_mul,Nat.testBit_two_pow_mul_add _ (by omega)];by_cases h : i < 52
     ·rw [if_pos h,decide_eq_false (by omega)];rfl
     ·rw [if_neg h];by_cases h5 : i = 52
      ·subst h5;rfl
      ·have : Nat.testBit 1 (i - 52) = false:=Nat.testBit_lt_two_pow (Nat.lt_of_lt_of_le (show 1 < 2 ^ 1 by omega) (Nat.pow_le_pow_right (by omega) (by omega)));rw [this,Bool.and_false]
    have e6 : (4503599627370496 + f) &&& (2 ^ 52 - 1) = f:=by
     rw [mask,← CQ.p52];omega
    rw [e3,Nat.and_or_distrib_left,e4,e6,Nat.zero_or]
   rw [e2,show ((4503599627370496 : Nat) : Int) = 4503599627370496 from rfl] at t2;(have hj : (1075 + e) = (((1075 + e).toNat : Nat) : Int):=by omega);have hjl : (1075 + e).toNat < 2048:=by omega
   generalize hJ : (1075 + e).toNat = J at *
   (have t4 : IntKind.u64.wrap (1075 + e) = (J : Int):=by rw [wu64];omega);(have t5 : IntKind.u64.wrap ((J : Int) * 4503599627370496) = ((J * 4503599627370496 : Nat) : Int):=by rw [wu64];omega);have t6:=Ziz f (J * 4503599627370496) (by omega) (by omega)
   have e7 : f ||| J * 4503599627370496 = J * 4503599627370496 + f:=by
    rw [Nat.or_comm,Nat.mul_comm];exact join J f 52 hf
   rw [e7] at t6;have h2:=Zb8 ((J * 4503599627370496 + f : Nat) : Int) (J * 4503599627370496 + f) (Int.toNat_natCast _);(have ht : (e + 1074).toNat * 4503599627370496 + (4503599627370496 + f) = J * 4503599627370496 + f:=by omega);rw [ht];(have h3' : e < 972:=by omega);have c1 : decide (972 ≤ e) = false:=decide_eq_false (by omega);clear h1 h3 hJ e2 e7 ht hm
   generalize J * 4503599627370496 + f = z at *
   generalize ((J * 4503599627370496 : Nat) : Int) = y at *
   generalize hg : 4503599627370496 + f = m at *
   clear hg hf;rw [← hj] at t4 t5;clear hj hjl;go_enter Tryz.func138,Tryz.ntmps138;go_wp2;go_ret2;exact ⟨rfl,0,rfl⟩
theorem Zi1 (b : Bool) (w : World) : Calls Tryz.prog 132 #[.bool b] w fun e w' => e = .returned (.int .i64 (b.toNat : Nat)) ∧ w = w':=by
 cases b
 all_goals
  go_enter Tryz.func132,Tryz.ntmps132;go_wp2;go_ret;exact ⟨rfl,rfl⟩
theorem Zjt (d b : Nat) (p e s : Int) (hi lo : Nat) (w : World) (hb : Lib.bitLen d = b) (hd : d < 18446744073709551616) (hb1 : 1 ≤ b) (hb2 : b ≤ 64) (hp1 : -348 ≤ p) (hp2 : p ≤ 347)
  (he : min 1074 (53 - (b : Int) - US.lp p) = e) (hs : -(e - (64 - (b : Int)) + US.lp p + 3) = s) (hs64 : 64 ≤ s) (hw : 13 < w.heap.size)
  (c0 : w.cell? ⟨13,(p + 348).toNat * 2,none⟩ = some (.int .u64 hi)) (c1 : w.cell? ⟨13,(p + 348).toNat * 2 + 1,none⟩ = some (.int .u64 lo)) :
  Calls Tryz.prog 120 #[.int .u64 d,.int .i64 p,.int .u64 0] w fun r w' => r = .returned (.tuple #[.float .f64 0,.nilIface]) ∧ Below w.heap.size w w':=by
 (have hl1 : -2000 ≤ US.lp p:=by unfold US.lp;omega);(have hl2 : US.lp p ≤ 2000:=by unfold US.lp;omega);(have he1 : -3000 ≤ e:=by omega);(have he2 : e ≤ 3000:=by omega);have HS:=Lib.hid hs;have HE:=Lib.hid he;have hlen:=fun W => (Tryz.bits_Len64 (d : Int) W (by omega) (by omega)).mono fun e w' h => (⟨h.1,h.2.symm⟩ : _ ∧ W = w');rw [Int.toNat_natCast,hb] at hlen;have HLEN:=Lib.hid hlen;(have ho : Go.bits .or .u64 0 0 = 0:=by decide);have h2:=Zb8 0 0 rfl;clear hs he hb hlen;go_enter Tryz.func120,Tryz.ntmps120;go_wp2_with (first | (go_at_call 128;((with_reducible refine (HLEN.out _).mono ?_);rintro e w' ⟨rfl,rfl⟩)) | (go_at_call 129;refine (ZdH p _ (by omega) (by omega)).mono ?_;rintro e w' ⟨rfl,rfl⟩) | (go_at_call 130;refine (Zd6 _ p s hi lo _ _ _ w (by rw [HE.out];exact HS.out.symm) hp1 hp2 (by omega) (by omega) hw c0 c1).mono ?_;rintro e w' ⟨rfl,rfl⟩));go_ret2;exact ⟨rfl,(Below.refl _ _).alloc (Nat.le_refl _) _⟩
theorem Zk8 (d b x u v m : Nat) (p e s f : Int) (sb : Bool) (hi lo : Nat) (w : World) (hb : Lib.bitLen d = b) (hd : d < 18446744073709551616) (hb1 : 1 ≤ b) (hb2 : b ≤ 64) (hp1 : -348 ≤ p) (hp2 : p ≤ 347)
  (he : min 1074 (53 - (b : Int) - US.lp p) = e) (hs : -(e - (64 - (b : Int)) + US.lp p + 3) = s) (hs64 : s < 64) (hs0 : 0 ≤ s) (hw : 13 < w.heap.size)
  (hx : d * 2 ^ (64 - b) = x) (hx2 : x < 18446744073709551616) (hu : US.usc x hi lo s.toNat = u) (hul : u < 9223372036854775808) (hsb : decide (36028797018963966 ≤ u) = sb) (hv : u / 2 ^ sb.toNat ||| u % 2 = v) (hm : (v + 1 + v / 4 % 2) / 4 = m) (hml : m < 9007199254740992) (hf : e - (sb.toNat : Int) = f)
  (hhi : hi < 18446744073709551616) (hlo : lo < 18446744073709551616) (hnn : x * lo ≤ x * hi * 18446744073709551616)
  (c0 : w.cell? ⟨13,(p + 348).toNat * 2,none⟩ = some (.int .u64 hi)) (c1 : w.cell? ⟨13,(p + 348).toNat * 2 + 1,none⟩ = some (.int .u64 lo)) :
  Calls Tryz.prog 120 #[.int .u64 d,.int .i64 p,.int .u64 0] w fun r w' => r = .returned (.tuple #[.float .f64 (ZgE m (-f)),Zju m (-f)]) ∧ Below w.heap.size w w':=by
 (have hl1 : -2000 ≤ US.lp p:=by unfold US.lp;omega);(have hl2 : US.lp p ≤ 2000:=by unfold US.lp;omega);(have he1 : -3000 ≤ e:=by omega);(have he2 : e ≤ 1074:=by omega);have HS:=Lib.hid hs;have HE:=Lib.hid he;have hlen:=fun W => (Tryz.bits_Len64 (d : Int) W (by omega) (by omega)).mono fun e w' h => (⟨h.1,h.2.symm⟩ : _ ∧ W = w');rw [Int.toNat_natCast,hb] at hlen;have HLEN:=Lib.hid hlen;obtain ⟨sn,rfl⟩ : ∃ sn : Nat,s = sn:=⟨s.toNat,by omega⟩;rw [Int.toNat_natCast] at hu
 have husc : ∀ (B : Nat) (W : World),W.cell? ⟨B,0,none⟩ = some (.int .u64 hi) → W.cell? ⟨B,1,none⟩ = some (.int .u64 lo) → W.cell? ⟨B,2,none⟩ = some (.int .i64 sn) →
   Calls Tryz.prog 131 #[.int .u64 x,.pointer (some ⟨B,0,none⟩)] W fun e w' => e = .returned (.int .u64 (u : Nat)) ∧ ∃ n,w' = W.drewN n:=by
  intro B W e0 e1 e2;have h:=Zh3 x hi lo sn B W hx2 hhi hlo (by omega) hnn e0 e1 e2;rw [hu] at h;exact h
 have HU:=Lib.hid husc
 have ho : Go.bits .or .u64 0 (m : Int) = m:=by
  have:=Ziz 0 m (by omega) (by omega);rw [Nat.zero_or] at this;exact this
 have hsh : IntKind.u64.wrap ((d : Int) * 2 ^ (64 - b)) = (x : Int):=by
  (have : (d : Int) * 2 ^ (64 - b) = (x : Int):=by rw [← hx,Int.natCast_mul,ZcT]);rw [this,wu64];omega
 have h1:=ZdP u 1 (by omega) (by omega);rw [Nat.and_one_is_mod,show ((1 : Nat) : Int) = 1 from rfl] at h1;have h3:=ZmC u sb.toNat (u % 2) (by omega) (by omega);rw [hv] at h3;have hsb2 : decide ((36028797018963966 : Int) ≤ (u : Int)) = sb:=by rw [← hsb];exact decide_eq_decide.2 (by omega)
 have hvl : v < 9223372036854775808:=by
  rw [← hv];exact Nat.or_lt_two_pow (n:=63) (Nat.lt_of_le_of_lt (Nat.div_le_self _ _) hul) (by omega)
 have hrd:=fun W => Zjn v W hvl;rw [hm] at hrd;have HRD:=Lib.hid hrd;have hsl : sb.toNat ≤ 1:=Bool.toNat_le _;have hpk:=fun W => Ziw m (-f) W hml (by omega) (by omega)
 generalize u % 2 = r at *
 generalize hgs : sb.toNat = t at *
 have hb2i:=fun W => Zi1 sb W;rw [hgs] at hb2i;have HB2:=Lib.hid hb2i
 generalize ZgE m (-f) = pw at *
 generalize Zju m (-f) = pe at *
 rw [show -f = -(min 1074 (53 - (b : Int) - US.lp p) - (t : Int)) by omega] at hpk;have HPK:=Lib.hid hpk;clear hs he hb hlen hx hu husc hnn hv hsb hrd hpk hul hm hb2i hgs;go_enter Tryz.func120,Tryz.ntmps120;go_wp2_with (first | (go_at_call 128;((with_reducible refine (HLEN.out _).mono ?_);rintro e w' ⟨rfl,rfl⟩)) | (go_at_call 129;refine (ZdH p _ (by omega) (by omega)).mono ?_;rintro e w' ⟨rfl,rfl⟩) | (go_at_call 130;refine (Zd6 _ p sn hi lo _ _ _ w (by rw [HE.out];exact HS.out.symm) hp1 hp2 (by omega) (by omega) hw c0 c1).mono ?_;rintro e w' ⟨rfl,rfl⟩) | (go_at_call 131;refine (HU.out _ _ (by go_simp) (by go_simp) (by go_simp)).mono ?_;rintro e w' ⟨rfl,nq,rfl⟩) | (go_at_call 133;refine (Zjb _).mono ?_;rintro e w' ⟨rfl,rfl⟩) | (go_at_call 132;((with_reducible refine (HB2.out _).mono ?_);rintro e w' ⟨rfl,rfl⟩)) | (go_at_call 135;((with_reducible refine (HRD.out _).mono ?_);rintro e w' ⟨rfl,rfl⟩)) | (go_at_call 138;((with_reducible refine (HPK.out _).mono ?_);rintro e w' ⟨rfl,nq2,rfl⟩)));go_ret2;exact ⟨rfl,Zac ((Below.refl _ _).alloc (Nat.le_refl _) _) _⟩
theorem ZcJ (s : ByteArray) (w : World) (h0 : 0 < s.size) (h1 : 48 ≤ (s[0]'h0).toNat) (h2 : (s[0]'h0).toNat ≤ 57) (hs : s.size ≤ 1000) :
  Calls Tryz.prog 108 #[.string s] w fun e w' => e = .returned (.tuple #[.float .f64 0,.int .i64 0,.bool false]) ∧ w = w':=by
 go_enter Tryz.func108,Tryz.ntmps108;go_wp2;go_ret3;exact ⟨rfl,rfl⟩
def num (l : List UInt8) : Nat:=l.foldl (fun a c => a * 10 + (c.toNat - 48)) 0
theorem Zdi (l : List UInt8) (c : UInt8) : num (l ++ [c]) = num l * 10 + (c.toNat - 48):=by unfold num;rw [List.foldl_append];rfl
theorem Zhz (l : List UInt8) (a : Nat) : l.foldl (fun a c => a * 10 + (c.toNat - 48)) a = a * 10 ^ l.length + num l:=by
 induction l generalizing a with
 | nil => simp [num]
 | cons c l ih =>
  unfold num;rw [List.foldl_cons,List.foldl_cons,ih,ih (0 * 10 + _),List.length_cons,Nat.pow_succ,Nat.add_mul];simp only [Nat.zero_mul,Nat.zero_add];(have : a * 10 * 10 ^ l.length = a * (10 ^ l.length * 10):=by ac_rfl);omega
theorem Zdv (l : List UInt8) (h : ∀ c ∈ l,c.toNat ≤ 57) : num l < 10 ^ l.length:=by
 induction l with
 | nil => exact Nat.one_pos
 | cons c l ih =>
  have h1:=ih (fun x hx => h x (List.mem_cons_of_mem _ hx));have h2:=h c (List.mem_cons_self ..);unfold num;rw [List.foldl_cons,Zhz,List.length_cons,Nat.pow_succ];have : (0 * 10 + (c.toNat - 48)) * 10 ^ l.length ≤ 9 * 10 ^ l.length:=Nat.mul_le_mul_right _ (by omega);omega
theorem ZfN (s : ByteArray) (k : Nat) (h : k < s.size) : s.data.toList.take (k + 1) = s.data.toList.take k ++ [s[k]]:=by
 rw [List.take_succ_eq_append_getElem (by simpa using h)];rfl
def lost (l : List UInt8) : Bool:=(l.drop 19).any (fun c => c != 48)
theorem ZiG (s : ByteArray) (k : Nat) (h : k < s.size) : lost (s.data.toList.take (k + 1)) = (lost (s.data.toList.take k) || (decide (19 ≤ k) && s[k] != 48)):=by
 (have hl : (s.data.toList.take k).length = k:=by rw [List.length_take,Nat.min_eq_left];simp;exact Nat.le_of_lt h);unfold lost;rw [ZfN s k h,List.drop_append,hl];by_cases h19 : 19 ≤ k
 ·rw [show 19 - k = 0 by omega,List.drop_zero,List.any_append,decide_eq_true h19];simp
 ·rw [decide_eq_false h19];have : List.drop (19 - k) [s[k]] = []:=List.drop_eq_nil_of_le (by simp;omega);rw [this,List.append_nil];simp
theorem ZdG (w : World) : Calls Tryz.prog 99 #[.int .u8 101] w fun e w' => e = .returned (.int .u8 101) ∧ w = w':=by
 (have h : Go.bits .or .u8 101 32 = 101:=by decide);go_enter Tryz.func99,Tryz.ntmps99;go_wp2;go_ret;exact ⟨rfl,rfl⟩
structure RdAt (s : ByteArray) (n k mk c : Nat) (tt gg : Bool) : Prop where
 hk : k ≤ n
 hm : mk = num (s.data.toList.take (min k 19))
 hc : c = min k 19
 ht : tt = lost (s.data.toList.take k)
 hg : gg = decide (0 < k)
theorem RdAt.zero (s : ByteArray) (n : Nat) : RdAt s n 0 0 0 false false:=⟨Nat.zero_le _,rfl,rfl,rfl,rfl⟩
theorem RdAt.small {s : ByteArray} {n k mk c : Nat} {tt gg : Bool} (h : RdAt s n k mk c tt gg) (h19 : k < 19) (hd : ∀ j,j < k → ∀ h : j < s.size,s[j].toNat ≤ 57) : mk < 1000000000000000000:=by
  rw [h.hm]
  have h1:=Zdv (s.data.toList.take (min k 19)) (by
    intro x hx;obtain ⟨j,hj,rfl⟩:=List.mem_iff_getElem.1 hx;rw [List.length_take] at hj;rw [List.getElem_take]
    exact hd j (by omega) (by have : j < s.data.toList.length := by omega
                              simpa using this))
  refine Nat.lt_of_lt_of_le h1 ?_;exact Nat.le_trans (Nat.pow_le_pow_right (by omega) (show _ ≤ 18 by rw [List.length_take];omega)) (by decide)
theorem RdAt.Zo9 {s : ByteArray} {n k mk c : Nat} {tt gg : Bool} (h : RdAt s n k mk c tt gg) (h19 : k < 19) (hn : k < n) (hs : k < s.size) : RdAt s n (k + 1) (mk * 10 + (s[k].toNat - 48)) (c + 1) tt true:=by
 refine ⟨hn,?_,by rw [h.hc];omega,?_,by simp⟩
 ·rw [show min (k + 1) 19 = k + 1 by omega,ZfN s k hs,Zdi,h.hm,show min k 19 = k by omega]
 ·rw [ZiG s k hs,decide_eq_false (by omega),Bool.false_and,Bool.or_false];exact h.ht
theorem RdAt.next {s : ByteArray} {n k mk c : Nat} {tt gg : Bool} (h : RdAt s n k mk c tt gg) (h19 : ¬ k < 19) (hn : k < n) (hs : k < s.size) : RdAt s n (k + 1) mk c (tt || s[k] != 48) true:=by
 refine ⟨hn,?_,by rw [h.hc];omega,?_,by simp⟩
 ·rw [h.hm,show min (k + 1) 19 = min k 19 by omega]
 ·rw [ZiG s k hs,decide_eq_true (by omega),Bool.true_and,h.ht]
set_option maxHeartbeats 4000000 in
set_option maxRecDepth 100000 in
theorem Zf2 (s : ByteArray) (n ev : Nat) (M : Nat) (T : Bool) (w : World) (hn1 : 1 ≤ n) (hn2 : n ≤ 60) (hsz1 : n + 2 < s.size) (hsz2 : s.size ≤ n + 5)
  (hdig : ∀ k (h : k < s.size),k < n → 48 ≤ s[k].toNat ∧ s[k].toNat ≤ 57) (hfirst : s[0].toNat ≠ 48) (he : s[n].toNat = 101) (hneg : s[n + 1].toNat = 45)
  (hexp : ∀ k (h : k < s.size),n + 2 ≤ k → 48 ≤ s[k].toNat ∧ s[k].toNat ≤ 57)
  (hM : num (s.data.toList.take (min n 19)) = M) (hT : lost (s.data.toList.take n) = T) (hev : num (s.data.toList.drop (n + 2)) = ev) (hM0 : M ≠ 0) :
  Calls Tryz.prog 109 #[.string s] w fun e w' => e = .returned (.tuple #[.int .u64 M,.int .i64 ((n : Int) - ev - (min n 19 : Nat)),.bool false,.bool T,.bool false,.int .i64 s.size,.bool true]) ∧ w = w':=by
 have hf:=hdig 0 (by omega) (by omega);have c0 : decide (s = ByteArray.empty) = false:=decide_eq_false (fun h => by rw [h] at hsz1;exact absurd hsz1 (by simp));have HD:=Lib.hid hdig;have HX:=Lib.hid hexp;have HM:=Lib.hid hM;have HT:=Lib.hid hT;have HE:=Lib.hid hev;clear hdig hexp hM hT hev;go_enter Tryz.func109,Tryz.ntmps109;go_wp2;go_step3;go_wp2;go_step3;go_wp2;go_loop [2,5,7,9,13,14,15,16,17,18] (fun m t i u d g nd nm dp _ => ∃ (k mk c : Nat) (tt gg : Bool),i = .int .i64 k ∧ m = .int .u64 mk ∧ t = .bool tt ∧ u = .bool false ∧ d = .bool false ∧ g = .bool gg ∧ nd = .int .i64 k ∧ nm = .int .i64 c ∧ dp = .int .i64 0 ∧ Hid (RdAt s n k mk c tt gg)) (fun _ _ i _ _ _ _ _ _ _ => s.size - (intOf i).toNat)
 case atStart => exact ⟨0,0,0,false,false,rfl,rfl,rfl,rfl,rfl,rfl,rfl,rfl,rfl,Lib.hid (RdAt.zero s n)⟩
 case round =>
  obtain ⟨k,mk,c,tt,gg,rfl,rfl,rfl,rfl,rfl,rfl,rfl,rfl,rfl,HR⟩:=hrel;by_cases hlt : k < n
  ·(have hks : k < s.size:=by omega);have hd:=HD.out k hks hlt;(have hz : k = 0 → s[k].toNat ≠ 48:=fun h => by subst h;exact hfirst);by_cases h19 : k < 19
   ·(obtain rfl : k = c:=by have:=HR.out.hc;omega);have hmk:=HR.out.small h19 (fun j hj h => (HD.out j h (by omega)).2);have HN:=Lib.hid (HR.out.Zo9 h19 hlt hks);have c1 : (gg = gg):=rfl;clear c1;by_cases h0 : k = 0
    ·have hz2:=hz h0;have HZ:=Lib.hid h0;(have c2 : ((s[k].toNat : Int) == 48) = false:=by simp;omega);clear h0 hz hfirst;go_wp2;go_round
     case rel => exact ⟨k + 1,mk * 10 + (s[k].toNat - 48),k + 1,tt,true,by go_num,congrArg (Value.int .u64) (by omega),rfl,rfl,rfl,rfl,by go_num,by go_num,rfl,HN⟩
     case measure => simp [intOf];omega
    ·(have c2 : ((k : Int) == 0) = false:=by simp;omega);have HZ:=Lib.hid h0;clear h0 hz hfirst;go_wp2
     all_goals
      go_round
      case rel => exact ⟨k + 1,mk * 10 + (s[k].toNat - 48),k + 1,tt,true,by go_num,congrArg (Value.int .u64) (by omega),rfl,rfl,rfl,rfl,by go_num,by go_num,rfl,HN⟩
      case measure => simp [intOf];omega
   ·(have hk0 : 0 < k:=by omega);(have c2 : ((k : Int) == 0) = false:=by simp;omega);(have hc19 : c ≤ 19:=by have:=HR.out.hc;omega);(have hc19g : 19 ≤ c:=by have:=HR.out.hc;omega);have c3 : decide ((c : Int) < 19) = false:=decide_eq_false (by omega);have HN:=Lib.hid (HR.out.next h19 hlt hks);clear hz hfirst h19;by_cases h48 : s[k].toNat = 48
    ·have e48 : (s[k] != 48) = false:=by
      have : s[k] = 48:=UInt8.toNat_inj.1 h48;rw [this];rfl
     rw [e48,Bool.or_false] at HN;(have c4 : ((s[k].toNat : Int) == 48) = true:=by simp;omega);(have c5 : ((s[k].toNat : Int) != 48) = false:=by simp;omega);clear h48 e48;go_wp2;go_round
     case rel => exact ⟨k + 1,mk,c,tt,true,by go_num,rfl,rfl,rfl,rfl,rfl,by go_num,rfl,rfl,HN⟩
     case measure => simp [intOf];omega
    ·have e48 : (s[k] != 48) = true:=by
      rw [bne_iff_ne];intro h;exact h48 (by rw [h];rfl)
     rw [e48,Bool.or_true] at HN;(have c4 : ((s[k].toNat : Int) == 48) = false:=by simp;omega);(have c5 : ((s[k].toNat : Int) != 48) = true:=by simp;omega);clear h48 e48;go_wp2;go_round
     case rel => exact ⟨k + 1,mk,c,true,true,by go_num,rfl,rfl,rfl,rfl,rfl,by go_num,rfl,rfl,HN⟩
     case measure => simp [intOf];omega
  ·(obtain rfl : n = k:=by have:=HR.out.hk;omega);(obtain rfl : gg = true:=by rw [HR.out.hg];exact decide_eq_true (by omega));(obtain rfl : mk = M:=by rw [← HM.out];exact HR.out.hm);(obtain rfl : tt = T:=by rw [← HT.out];exact HR.out.ht);have HC:=Lib.hid HR.out.hc;(have hc19 : c ≤ 19:=by have:=HC.out;omega);have hx : 48 ≤ (s[n + 1 + 1]'(by omega)).toNat ∧ (s[n + 1 + 1]'(by omega)).toNat ≤ 57:=HX.out (n + 1 + 1) (by omega) (by omega);obtain ⟨hx1,hx2⟩:=hx;(have c6 : ((mk : Int) != 0) = true:=by simp;omega);clear hfirst hlt hM0;go_wp2_with (go_at_call 99;refine (ZdG _).mono ?_;rintro e w' ⟨rfl,rfl⟩);go_loop [7,9,20] (fun i u e => ∃ j ee : Nat,i = .int .i64 j ∧ u = .bool false ∧ e = .int .i64 ee ∧ Hid (n + 2 ≤ j ∧ j ≤ s.size ∧ ee = num ((s.data.toList.drop (n + 2)).take (j - (n + 2))))) (fun i _ _ => s.size - (intOf i).toNat)
   case atStart => exact ⟨n + 2,0,by go_num,rfl,rfl,Lib.hid ⟨by omega,by omega,by simp [num]⟩⟩
   case round =>
    obtain ⟨j,ee,rfl,rfl,rfl,HJ⟩:=hrel;have hj1 : n + 2 ≤ j:=HJ.out.1;have hj2 : j ≤ s.size:=HJ.out.2.1;by_cases hlt : j < s.size
    ·have hd:=HX.out j hlt hj1
     have hee : ee < 1000:=by
      rw [HJ.out.2.2];refine Nat.lt_of_lt_of_le (Zdv _ ?_) (Nat.le_trans (Nat.pow_le_pow_right (by omega) (show _ ≤ 3 by rw [List.length_take];omega)) (by decide));intro x hx;have hx':=List.mem_of_mem_take hx;obtain ⟨i,hi,rfl⟩:=List.mem_iff_getElem.1 hx';rw [List.getElem_drop];rw [List.length_drop] at hi;exact (HX.out (n + 2 + i) (by simp at hi;omega) (by omega)).2
     have HN : Hid (n + 2 ≤ j + 1 ∧ j + 1 ≤ s.size ∧ ee * 10 + (s[j].toNat - 48) = num ((s.data.toList.drop (n + 2)).take (j + 1 - (n + 2)))):=Lib.hid ⟨by omega,by omega,by
      rw [show j + 1 - (n + 2) = (j - (n + 2)) + 1 by omega,List.take_succ_eq_append_getElem (by simp;omega),Zdi,← HJ.out.2.2]
      congr 2
      rw [List.getElem_drop];simp only [show n + 2 + (j - (n + 2)) = j by omega]
      rfl⟩
     (have c7 : ((s[j].toNat : Int) == 95) = false:=by simp;omega);go_wp2;go_round
     case rel => exact ⟨j + 1,ee * 10 + (s[j].toNat - 48),by go_num,rfl,congrArg (Value.int .i64) (by omega),HN⟩
     case measure => simp [intOf];omega
    ·obtain rfl : s.size = j:=by omega
     have hee : ee = ev:=by
      rw [HJ.out.2.2,← HE.out];exact congrArg num (List.take_of_length_le (by simp))
     have hle : ee < 1000:=by
      rw [HJ.out.2.2];refine Nat.lt_of_lt_of_le (Zdv _ ?_) (Nat.le_trans (Nat.pow_le_pow_right (by omega) (show _ ≤ 3 by rw [List.length_take];omega)) (by decide));intro x hx;have hx':=List.mem_of_mem_take hx;obtain ⟨i,hi,rfl⟩:=List.mem_iff_getElem.1 hx';rw [List.getElem_drop];rw [List.length_drop] at hi;exact (HX.out (n + 2 + i) (by simp at hi;omega) (by omega)).2
     obtain rfl : ee = ev:=hee;have HEE:=Lib.hid hle;go_wp2;refine bodyPost_ret (v:=.tuple #[.int .u64 mk,.int .i64 ((n : Int) - ee - (min n 19 : Nat)),.bool false,.bool tt,.bool false,.int .i64 s.size,.bool true]) (by simp [results,Tryz.results109,go_sem];rw [HC.out];try omega) rfl ⟨rfl,rfl⟩
set_option maxHeartbeats 4000000 in
set_option maxRecDepth 100000 in
theorem ZgC (s : ByteArray) (n ev : Nat) (M : Nat) (T : Bool) (w : World) (hn1 : 1 ≤ n) (hn2 : n ≤ 60) (hsz1 : n + 1 < s.size) (hsz2 : s.size ≤ n + 4)
  (hdig : ∀ k (h : k < s.size),k < n → 48 ≤ s[k].toNat ∧ s[k].toNat ≤ 57) (hfirst : s[0].toNat ≠ 48) (he : s[n].toNat = 101)
  (hexp : ∀ k (h : k < s.size),n + 1 ≤ k → 48 ≤ s[k].toNat ∧ s[k].toNat ≤ 57)
  (hM : num (s.data.toList.take (min n 19)) = M) (hT : lost (s.data.toList.take n) = T) (hev : num (s.data.toList.drop (n + 1)) = ev) (hM0 : M ≠ 0) :
  Calls Tryz.prog 109 #[.string s] w fun e w' => e = .returned (.tuple #[.int .u64 M,.int .i64 ((n : Int) + ev - (min n 19 : Nat)),.bool false,.bool T,.bool false,.int .i64 s.size,.bool true]) ∧ w = w':=by
 have hf:=hdig 0 (by omega) (by omega);have c0 : decide (s = ByteArray.empty) = false:=decide_eq_false (fun h => by rw [h] at hsz1;exact absurd hsz1 (by simp));have HD:=Lib.hid hdig;have HX:=Lib.hid hexp;have HM:=Lib.hid hM;have HT:=Lib.hid hT;have HE:=Lib.hid hev;clear hdig hexp hM hT hev;go_enter Tryz.func109,Tryz.ntmps109;go_wp2;go_step3;go_wp2;go_step3;go_wp2;go_loop [2,5,7,9,13,14,15,16,17,18] (fun m t i u d g nd nm dp _ => ∃ (k mk c : Nat) (tt gg : Bool),i = .int .i64 k ∧ m = .int .u64 mk ∧ t = .bool tt ∧ u = .bool false ∧ d = .bool false ∧ g = .bool gg ∧ nd = .int .i64 k ∧ nm = .int .i64 c ∧ dp = .int .i64 0 ∧ Hid (RdAt s n k mk c tt gg)) (fun _ _ i _ _ _ _ _ _ _ => s.size - (intOf i).toNat)
 case atStart => exact ⟨0,0,0,false,false,rfl,rfl,rfl,rfl,rfl,rfl,rfl,rfl,rfl,Lib.hid (RdAt.zero s n)⟩
 case round =>
  obtain ⟨k,mk,c,tt,gg,rfl,rfl,rfl,rfl,rfl,rfl,rfl,rfl,rfl,HR⟩:=hrel;by_cases hlt : k < n
  ·(have hks : k < s.size:=by omega);have hd:=HD.out k hks hlt;(have hz : k = 0 → s[k].toNat ≠ 48:=fun h => by subst h;exact hfirst);by_cases h19 : k < 19
   ·(obtain rfl : k = c:=by have:=HR.out.hc;omega);have hmk:=HR.out.small h19 (fun j hj h => (HD.out j h (by omega)).2);have HN:=Lib.hid (HR.out.Zo9 h19 hlt hks);have c1 : (gg = gg):=rfl;clear c1;by_cases h0 : k = 0
    ·have hz2:=hz h0;have HZ:=Lib.hid h0;(have c2 : ((s[k].toNat : Int) == 48) = false:=by simp;omega);clear h0 hz hfirst;go_wp2;go_round
     case rel => exact ⟨k + 1,mk * 10 + (s[k].toNat - 48),k + 1,tt,true,by go_num,congrArg (Value.int .u64) (by omega),rfl,rfl,rfl,rfl,by go_num,by go_num,rfl,HN⟩
     case measure => simp [intOf];omega
    ·(have c2 : ((k : Int) == 0) = false:=by simp;omega);have HZ:=Lib.hid h0;clear h0 hz hfirst;go_wp2
     all_goals
      go_round
      case rel => exact ⟨k + 1,mk * 10 + (s[k].toNat - 48),k + 1,tt,true,by go_num,congrArg (Value.int .u64) (by omega),rfl,rfl,rfl,rfl,by go_num,by go_num,rfl,HN⟩
      case measure => simp [intOf];omega
   ·(have hk0 : 0 < k:=by omega);(have c2 : ((k : Int) == 0) = false:=by simp;omega);(have hc19 : c ≤ 19:=by have:=HR.out.hc;omega);(have hc19g : 19 ≤ c:=by have:=HR.out.hc;omega);have c3 : decide ((c : Int) < 19) = false:=decide_eq_false (by omega);have HN:=Lib.hid (HR.out.next h19 hlt hks);clear hz hfirst h19;by_cases h48 : s[k].toNat = 48
    ·have e48 : (s[k] != 48) = false:=by
      have : s[k] = 48:=UInt8.toNat_inj.1 h48;rw [this];rfl
     rw [e48,Bool.or_false] at HN;(have c4 : ((s[k].toNat : Int) == 48) = true:=by simp;omega);(have c5 : ((s[k].toNat : Int) != 48) = false:=by simp;omega);clear h48 e48;go_wp2;go_round
     case rel => exact ⟨k + 1,mk,c,tt,true,by go_num,rfl,rfl,rfl,rfl,rfl,by go_num,rfl,rfl,HN⟩
     case measure => simp [intOf];omega
    ·have e48 : (s[k] != 48) = true:=by
      rw [bne_iff_ne];intro h;exact h48 (by rw [h];rfl)
     rw [e48,Bool.or_true] at HN;(have c4 : ((s[k].toNat : Int) == 48) = false:=by simp;omega);(have c5 : ((s[k].toNat : Int) != 48) = true:=by simp;omega);clear h48 e48;go_wp2;go_round
     case rel => exact ⟨k + 1,mk,c,true,true,by go_num,rfl,rfl,rfl,rfl,rfl,by go_num,rfl,rfl,HN⟩
     case measure => simp [intOf];omega
  ·(obtain rfl : n = k:=by have:=HR.out.hk;omega);(obtain rfl : gg = true:=by rw [HR.out.hg];exact decide_eq_true (by omega));(obtain rfl : mk = M:=by rw [← HM.out];exact HR.out.hm);(obtain rfl : tt = T:=by rw [← HT.out];exact HR.out.ht);have HC:=Lib.hid HR.out.hc;(have hc19 : c ≤ 19:=by have:=HC.out;omega);have hx : 48 ≤ (s[n + 1]'(by omega)).toNat ∧ (s[n + 1]'(by omega)).toNat ≤ 57:=HX.out (n + 1) (by omega) (by omega);obtain ⟨hx1,hx2⟩:=hx;(have c6 : ((mk : Int) != 0) = true:=by simp;omega);clear hfirst hlt hM0;go_wp2_with (go_at_call 99;refine (ZdG _).mono ?_;rintro e w' ⟨rfl,rfl⟩);go_loop [7,9,20] (fun i u e => ∃ j ee : Nat,i = .int .i64 j ∧ u = .bool false ∧ e = .int .i64 ee ∧ Hid (n + 1 ≤ j ∧ j ≤ s.size ∧ ee = num ((s.data.toList.drop (n + 1)).take (j - (n + 1))))) (fun i _ _ => s.size - (intOf i).toNat)
   case atStart => exact ⟨n + 1,0,by go_num,rfl,rfl,Lib.hid ⟨by omega,by omega,by simp [num]⟩⟩
   case round =>
    obtain ⟨j,ee,rfl,rfl,rfl,HJ⟩:=hrel;have hj1 : n + 1 ≤ j:=HJ.out.1;have hj2 : j ≤ s.size:=HJ.out.2.1;by_cases hlt : j < s.size
    ·have hd:=HX.out j hlt hj1
     have hee : ee < 1000:=by
      rw [HJ.out.2.2];refine Nat.lt_of_lt_of_le (Zdv _ ?_) (Nat.le_trans (Nat.pow_le_pow_right (by omega) (show _ ≤ 3 by rw [List.length_take];omega)) (by decide));intro x hx;have hx':=List.mem_of_mem_take hx;obtain ⟨i,hi,rfl⟩:=List.mem_iff_getElem.1 hx';rw [List.getElem_drop];rw [List.length_drop] at hi;exact (HX.out (n + 1 + i) (by simp at hi;omega) (by omega)).2
     have HN : Hid (n + 1 ≤ j + 1 ∧ j + 1 ≤ s.size ∧ ee * 10 + (s[j].toNat - 48) = num ((s.data.toList.drop (n + 1)).take (j + 1 - (n + 1)))):=Lib.hid ⟨by omega,by omega,by
      rw [show j + 1 - (n + 1) = (j - (n + 1)) + 1 by omega,List.take_succ_eq_append_getElem (by simp;omega),Zdi,← HJ.out.2.2]
      congr 2
      rw [List.getElem_drop];simp only [show n + 1 + (j - (n + 1)) = j by omega]
      rfl⟩
     (have c7 : ((s[j].toNat : Int) == 95) = false:=by simp;omega);go_wp2;go_round
     case rel => exact ⟨j + 1,ee * 10 + (s[j].toNat - 48),by go_num,rfl,congrArg (Value.int .i64) (by omega),HN⟩
     case measure => simp [intOf];omega
    ·obtain rfl : s.size = j:=by omega
     have hee : ee = ev:=by
      rw [HJ.out.2.2,← HE.out];exact congrArg num (List.take_of_length_le (by simp))
     have hle : ee < 1000:=by
      rw [HJ.out.2.2];refine Nat.lt_of_lt_of_le (Zdv _ ?_) (Nat.le_trans (Nat.pow_le_pow_right (by omega) (show _ ≤ 3 by rw [List.length_take];omega)) (by decide));intro x hx;have hx':=List.mem_of_mem_take hx;obtain ⟨i,hi,rfl⟩:=List.mem_iff_getElem.1 hx';rw [List.getElem_drop];rw [List.length_drop] at hi;exact (HX.out (n + 1 + i) (by simp at hi;omega) (by omega)).2
     obtain rfl : ee = ev:=hee;have HEE:=Lib.hid hle;go_wp2;refine bodyPost_ret (v:=.tuple #[.int .u64 mk,.int .i64 ((n : Int) + ee - (min n 19 : Nat)),.bool false,.bool tt,.bool false,.int .i64 s.size,.bool true]) (by simp [results,Tryz.results109,go_sem];rw [HC.out];try omega) rfl ⟨rfl,rfl⟩
set_option maxHeartbeats 4000000 in
set_option maxRecDepth 100000 in
theorem Zd2 (s : ByteArray) (w : World) (hsz1 : 3 < s.size) (hsz2 : s.size ≤ 6)
  (hfirst : s[0].toNat = 48) (he : s[1].toNat = 101) (hneg : s[2].toNat = 45)
  (hexp : ∀ k (h : k < s.size),3 ≤ k → 48 ≤ s[k].toNat ∧ s[k].toNat ≤ 57) :
  Calls Tryz.prog 109 #[.string s] w fun e w' => e = .returned (.tuple #[.int .u64 0,.int .i64 0,.bool false,.bool false,.bool false,.int .i64 s.size,.bool true]) ∧ w = w':=by
 have c0 : decide (s = ByteArray.empty) = false:=decide_eq_false (fun h => by rw [h] at hsz1;exact absurd hsz1 (by simp));have HX:=Lib.hid hexp;clear hexp;go_enter Tryz.func109,Tryz.ntmps109;go_wp2;go_step3;go_wp2;go_step3;go_wp2_with (go_at_call 99;refine (ZdG _).mono ?_;rintro e w' ⟨rfl,rfl⟩);go_loop [2,5,7,9,13,14,15,16,17,18] (fun m t i u d g nd nm dp _ => ∃ (k : Nat) (gg : Bool) (dv : Int),i = .int .i64 k ∧ m = .int .u64 0 ∧ t = .bool false ∧ u = .bool false ∧ d = .bool false ∧ g = .bool gg ∧ nd = .int .i64 0 ∧ nm = .int .i64 0 ∧ dp = .int .i64 dv ∧ Hid (k ≤ 1 ∧ gg = decide (0 < k) ∧ (k : Int) - 1 - k - k ≤ dv ∧ dv ≤ 1)) (fun _ _ i _ _ _ _ _ _ _ => s.size - (intOf i).toNat)
 case atStart => exact ⟨0,false,0,rfl,rfl,rfl,rfl,rfl,rfl,rfl,rfl,rfl,Lib.hid ⟨by omega,rfl,by omega,by omega⟩⟩
 case round =>
  obtain ⟨k,gg,dv,rfl,rfl,rfl,rfl,rfl,rfl,rfl,rfl,rfl,HR⟩:=hrel;have hdv0:=HR.out.2.2.1;(have hdv1 : -2 ≤ dv:=by have:=HR.out.1;omega);have hdv2 : dv ≤ 1:=HR.out.2.2.2;by_cases hlt : k < 1
  ·(obtain rfl : k = 0:=by omega);go_wp2;go_round
   case rel => exact ⟨1,true,dv - 1,by go_num,rfl,rfl,rfl,rfl,rfl,rfl,rfl,rfl,Lib.hid ⟨by omega,rfl,by omega,by omega⟩⟩
   case measure => simp [intOf];omega
  ·(obtain rfl : k = 1:=by have:=HR.out.1;omega);obtain rfl : gg = true:=HR.out.2.1;have hx : 48 ≤ (s[3]'(by omega)).toNat ∧ (s[3]'(by omega)).toNat ≤ 57:=HX.out 3 (by omega) (by omega);obtain ⟨hx1,hx2⟩:=hx;clear hlt;go_wp2_with (go_at_call 99;refine (ZdG _).mono ?_;rintro e w' ⟨rfl,rfl⟩);go_loop [7,9,20] (fun i u e => ∃ j ee : Nat,i = .int .i64 j ∧ u = .bool false ∧ e = .int .i64 ee ∧ Hid (3 ≤ j ∧ j ≤ s.size ∧ ee = num ((s.data.toList.drop 3).take (j - 3)))) (fun i _ _ => s.size - (intOf i).toNat)
   case atStart => exact ⟨3,0,by go_num,rfl,rfl,Lib.hid ⟨by omega,by omega,by simp [num]⟩⟩
   case round =>
    obtain ⟨j,ee,rfl,rfl,rfl,HJ⟩:=hrel;have hj1 : 3 ≤ j:=HJ.out.1;have hj2 : j ≤ s.size:=HJ.out.2.1
    have hee : ee < 1000:=by
     rw [HJ.out.2.2];refine Nat.lt_of_lt_of_le (Zdv _ ?_) (Nat.le_trans (Nat.pow_le_pow_right (by omega) (show _ ≤ 3 by rw [List.length_take];omega)) (by decide));intro x hx;have hx':=List.mem_of_mem_take hx;obtain ⟨i,hi,rfl⟩:=List.mem_iff_getElem.1 hx';rw [List.getElem_drop];rw [List.length_drop] at hi;exact (HX.out (3 + i) (by simp at hi;omega) (by omega)).2
    by_cases hlt : j < s.size
    ·have hd:=HX.out j hlt hj1
     have HN : Hid (3 ≤ j + 1 ∧ j + 1 ≤ s.size ∧ ee * 10 + (s[j].toNat - 48) = num ((s.data.toList.drop 3).take (j + 1 - 3))):=Lib.hid ⟨by omega,by omega,by
      rw [show j + 1 - 3 = (j - 3) + 1 by omega,List.take_succ_eq_append_getElem (by simp;omega),Zdi,← HJ.out.2.2]
      congr 2
      rw [List.getElem_drop];simp only [show 3 + (j - 3) = j by omega]
      rfl⟩
     (have c7 : ((s[j].toNat : Int) == 95) = false:=by simp;omega);go_wp2;go_round
     case rel => exact ⟨j + 1,ee * 10 + (s[j].toNat - 48),by go_num,rfl,congrArg (Value.int .i64) (by omega),HN⟩
     case measure => simp [intOf];omega
    ·(obtain rfl : s.size = j:=by omega);go_wp2;refine bodyPost_ret (v:=.tuple #[.int .u64 0,.int .i64 0,.bool false,.bool false,.bool false,.int .i64 s.size,.bool true]) (by simp [results,Tryz.results109,go_sem]) rfl ⟨rfl,rfl⟩
set_option maxHeartbeats 4000000 in
set_option maxRecDepth 100000 in
theorem Zei (s : ByteArray) (w : World) (hsz1 : 2 < s.size) (hsz2 : s.size ≤ 5)
  (hfirst : s[0].toNat = 48) (he : s[1].toNat = 101)
  (hexp : ∀ k (h : k < s.size),2 ≤ k → 48 ≤ s[k].toNat ∧ s[k].toNat ≤ 57) :
  Calls Tryz.prog 109 #[.string s] w fun e w' => e = .returned (.tuple #[.int .u64 0,.int .i64 0,.bool false,.bool false,.bool false,.int .i64 s.size,.bool true]) ∧ w = w':=by
 have c0 : decide (s = ByteArray.empty) = false:=decide_eq_false (fun h => by rw [h] at hsz1;exact absurd hsz1 (by simp));have HX:=Lib.hid hexp;clear hexp;go_enter Tryz.func109,Tryz.ntmps109;go_wp2;go_step3;go_wp2;go_step3;go_wp2_with (go_at_call 99;refine (ZdG _).mono ?_;rintro e w' ⟨rfl,rfl⟩);go_loop [2,5,7,9,13,14,15,16,17,18] (fun m t i u d g nd nm dp _ => ∃ (k : Nat) (gg : Bool) (dv : Int),i = .int .i64 k ∧ m = .int .u64 0 ∧ t = .bool false ∧ u = .bool false ∧ d = .bool false ∧ g = .bool gg ∧ nd = .int .i64 0 ∧ nm = .int .i64 0 ∧ dp = .int .i64 dv ∧ Hid (k ≤ 1 ∧ gg = decide (0 < k) ∧ (k : Int) - 1 - k - k ≤ dv ∧ dv ≤ 1)) (fun _ _ i _ _ _ _ _ _ _ => s.size - (intOf i).toNat)
 case atStart => exact ⟨0,false,0,rfl,rfl,rfl,rfl,rfl,rfl,rfl,rfl,rfl,Lib.hid ⟨by omega,rfl,by omega,by omega⟩⟩
 case round =>
  obtain ⟨k,gg,dv,rfl,rfl,rfl,rfl,rfl,rfl,rfl,rfl,rfl,HR⟩:=hrel;have hdv0:=HR.out.2.2.1;(have hdv1 : -2 ≤ dv:=by have:=HR.out.1;omega);have hdv2 : dv ≤ 1:=HR.out.2.2.2;by_cases hlt : k < 1
  ·(obtain rfl : k = 0:=by omega);go_wp2;go_round
   case rel => exact ⟨1,true,dv - 1,by go_num,rfl,rfl,rfl,rfl,rfl,rfl,rfl,rfl,Lib.hid ⟨by omega,rfl,by omega,by omega⟩⟩
   case measure => simp [intOf];omega
  ·(obtain rfl : k = 1:=by have:=HR.out.1;omega);obtain rfl : gg = true:=HR.out.2.1;have hx : 48 ≤ (s[2]'(by omega)).toNat ∧ (s[2]'(by omega)).toNat ≤ 57:=HX.out 2 (by omega) (by omega);obtain ⟨hx1,hx2⟩:=hx;clear hlt;go_wp2_with (go_at_call 99;refine (ZdG _).mono ?_;rintro e w' ⟨rfl,rfl⟩);go_loop [7,9,20] (fun i u e => ∃ j ee : Nat,i = .int .i64 j ∧ u = .bool false ∧ e = .int .i64 ee ∧ Hid (2 ≤ j ∧ j ≤ s.size ∧ ee = num ((s.data.toList.drop 2).take (j - 2)))) (fun i _ _ => s.size - (intOf i).toNat)
   case atStart => exact ⟨2,0,by go_num,rfl,rfl,Lib.hid ⟨by omega,by omega,by simp [num]⟩⟩
   case round =>
    obtain ⟨j,ee,rfl,rfl,rfl,HJ⟩:=hrel;have hj1 : 2 ≤ j:=HJ.out.1;have hj2 : j ≤ s.size:=HJ.out.2.1
    have hee : ee < 1000:=by
     rw [HJ.out.2.2];refine Nat.lt_of_lt_of_le (Zdv _ ?_) (Nat.le_trans (Nat.pow_le_pow_right (by omega) (show _ ≤ 3 by rw [List.length_take];omega)) (by decide));intro x hx;have hx':=List.mem_of_mem_take hx;obtain ⟨i,hi,rfl⟩:=List.mem_iff_getElem.1 hx';rw [List.getElem_drop];rw [List.length_drop] at hi;exact (HX.out (2 + i) (by simp at hi;omega) (by omega)).2
    by_cases hlt : j < s.size
    ·have hd:=HX.out j hlt hj1
     have HN : Hid (2 ≤ j + 1 ∧ j + 1 ≤ s.size ∧ ee * 10 + (s[j].toNat - 48) = num ((s.data.toList.drop 2).take (j + 1 - 2))):=Lib.hid ⟨by omega,by omega,by
      rw [show j + 1 - 2 = (j - 2) + 1 by omega,List.take_succ_eq_append_getElem (by simp;omega),Zdi,← HJ.out.2.2]
      congr 2
      rw [List.getElem_drop];simp only [show 2 + (j - 2) = j by omega]
      rfl⟩
     (have c7 : ((s[j].toNat : Int) == 95) = false:=by simp;omega);go_wp2;go_round
     case rel => exact ⟨j + 1,ee * 10 + (s[j].toNat - 48),by go_num,rfl,congrArg (Value.int .i64) (by omega),HN⟩
     case measure => simp [intOf];omega
    ·(obtain rfl : s.size = j:=by omega);go_wp2;refine bodyPost_ret (v:=.tuple #[.int .u64 0,.int .i64 0,.bool false,.bool false,.bool false,.int .i64 s.size,.bool true]) (by simp [results,Tryz.results109,go_sem]) rfl ⟨rfl,rfl⟩
theorem Zjl (d : Nat) (h : d < 4503599627370496) : ((d : Int) / 4503599627370496 != 0) = false:=by
 (have : (d : Int) / 4503599627370496 = 0:=by omega);rw [this];rfl
theorem Zl6 (d : Nat) (h : 4503599627370496 ≤ d) : ((d : Int) / 4503599627370496 != 0) = true:=by
 (have : (d : Int) / 4503599627370496 ≠ 0:=by omega);exact bne_iff_ne.2 this
theorem of_int (d : Nat) : floatOfInt FloatKind.f64 (d : Int) = Ieee.double.nearest false d 0:=by
 show Ieee.double.nearest (decide ((d : Int) < 0)) (d : Int).natAbs 0 = _;rw [decide_eq_false (by omega),Int.natAbs_natCast]
theorem ZoC (d : Nat) (e : Int) (w : World) (hd : 4503599627370496 ≤ d) (hi : w.cell? ⟨8,0,none⟩ = some (.int .u64 52)) :
  Calls Tryz.prog 119 #[.int .u64 d,.int .i64 e,.bool false] w fun r w' => r = .returned (.tuple #[.float .f64 0,.bool false]) ∧ w = w':=by
 have h1:=Zl6 d hd;go_enter Tryz.func119,Tryz.ntmps119;go_wp2;go_ret2;exact ⟨rfl,rfl⟩
theorem Zlp (d x : Nat) (w : World) (hd : d < 4503599627370496) (hx : Ieee.double.nearest false d 0 = x) (hi : w.cell? ⟨8,0,none⟩ = some (.int .u64 52)) :
  Calls Tryz.prog 119 #[.int .u64 d,.int .i64 0,.bool false] w fun r w' => r = .returned (.tuple #[.float .f64 x,.bool true]) ∧ w = w':=by
 have h1:=Zjl d hd;have hx2:=of_int d;rw [hx] at hx2;go_enter Tryz.func119,Tryz.ntmps119;go_wp2;go_ret2;exact ⟨rfl,rfl⟩
theorem Znc (d x : Nat) (e : Int) (w : World) (hd : d < 4503599627370496) (hx : Ieee.double.nearest false d 0 = x) (he : 37 < e ∨ e < -22) (he1 : -10000 ≤ e) (he2 : e ≤ 10000) (hi : w.cell? ⟨8,0,none⟩ = some (.int .u64 52)) :
  Calls Tryz.prog 119 #[.int .u64 d,.int .i64 e,.bool false] w fun r w' => r = .returned (.tuple #[.float .f64 x,.bool false]) ∧ w = w':=by
 have h1:=Zjl d hd;have hx2:=of_int d;rw [hx] at hx2;(have h0 : (e == 0) = false:=by simp;omega);rcases he with he | he
 all_goals
  go_enter Tryz.func119,Tryz.ntmps119;go_wp2;go_ret2;exact ⟨rfl,rfl⟩
theorem ZjH (d x y z n cap : Nat) (ab ao : Nat) (w : World) (hd : d < 4503599627370496) (hx : Ieee.double.nearest false d 0 = x) (hn1 : 1 ≤ n) (hn2 : n ≤ 22) (hi : w.cell? ⟨8,0,none⟩ = some (.int .u64 52))
  (hs : w.cell? ⟨11,0,none⟩ = some (.slice (some ⟨ab,ao,none⟩) 23 cap)) (hy : w.cell? ⟨ab,ao + n,none⟩ = some (.float .f64 y)) (hz : Ieee.double.div x y = some z) :
  Calls Tryz.prog 119 #[.int .u64 d,.int .i64 (-(n : Int)),.bool false] w fun r w' => r = .returned (.tuple #[.float .f64 z,.bool true]) ∧ w = w':=by
 have h1:=Zjl d hd;have hx2:=of_int d;rw [hx] at hx2;(have h0 : (-(n : Int) == 0) = false:=by simp;omega);have hop : ∀ t w,(binOp .quo t (.float .f64 x) (.float .f64 y)).run Tryz.prog w = .ok (.float .f64 z) w:=fun t w => run_float_arith w .quo t .f64 x y z hz;have hneg : - -(n : Int) = n:=Int.neg_neg _;clear hz;go_enter Tryz.func119,Tryz.ntmps119;go_wp2;go_ret2;exact ⟨rfl,rfl⟩
theorem ZjI (d x y z n cap : Nat) (ab ao : Nat) (w : World) (hd : d < 4503599627370496) (hx : Ieee.double.nearest false d 0 = x) (hn1 : 1 ≤ n) (hn2 : n ≤ 22) (hi : w.cell? ⟨8,0,none⟩ = some (.int .u64 52))
  (hs : w.cell? ⟨11,0,none⟩ = some (.slice (some ⟨ab,ao,none⟩) 23 cap)) (hy : w.cell? ⟨ab,ao + n,none⟩ = some (.float .f64 y)) (hz : Ieee.double.mul x y = some z)
  (ho1 : (FloatKind.f64.format.order x 4831355200913801216 == some .gt) = false) (ho2 : (FloatKind.f64.format.order x 14054727237768577024 == some .lt) = false) :
  Calls Tryz.prog 119 #[.int .u64 d,.int .i64 n,.bool false] w fun r w' => r = .returned (.tuple #[.float .f64 z,.bool true]) ∧ w = w':=by
 have h1:=Zjl d hd;have hx2:=of_int d;rw [hx] at hx2;(have h0 : ((n : Int) == 0) = false:=by simp;omega);have hop : ∀ t w,(binOp .mul t (.float .f64 x) (.float .f64 y)).run Tryz.prog w = .ok (.float .f64 z) w:=fun t w => run_float_arith w .mul t .f64 x y z hz;clear hz;go_enter Tryz.func119,Tryz.ntmps119;go_wp2;go_ret2;exact ⟨rfl,rfl⟩
theorem Zgp (d x n : Nat) (w : World) (hd : d < 4503599627370496) (hx : Ieee.double.nearest false d 0 = x) (hn1 : 1 ≤ n) (hn2 : n ≤ 22) (hi : w.cell? ⟨8,0,none⟩ = some (.int .u64 52))
  (ho1 : (FloatKind.f64.format.order x 4831355200913801216 == some .gt) = true) :
  Calls Tryz.prog 119 #[.int .u64 d,.int .i64 n,.bool false] w fun r w' => r = .returned (.tuple #[.float .f64 x,.bool false]) ∧ w = w':=by
 have h1:=Zjl d hd;have hx2:=of_int d;rw [hx] at hx2;(have h0 : ((n : Int) == 0) = false:=by simp;omega);go_enter Tryz.func119,Tryz.ntmps119;go_wp2;go_ret2;exact ⟨rfl,rfl⟩
theorem Zlr (d x x2 y y2 z n cap : Nat) (ab ao : Nat) (w : World) (hd : d < 4503599627370496) (hx : Ieee.double.nearest false d 0 = x) (hn1 : 23 ≤ n) (hn2 : n ≤ 37) (hi : w.cell? ⟨8,0,none⟩ = some (.int .u64 52))
  (hs : w.cell? ⟨11,0,none⟩ = some (.slice (some ⟨ab,ao,none⟩) 23 cap)) (hy : w.cell? ⟨ab,ao + (n - 22),none⟩ = some (.float .f64 y)) (hm : Ieee.double.mul x y = some x2) (hy2 : w.cell? ⟨ab,ao + 22,none⟩ = some (.float .f64 y2)) (hz : Ieee.double.mul x2 y2 = some z)
  (ho1 : (FloatKind.f64.format.order x2 4831355200913801216 == some .gt) = false) (ho2 : (FloatKind.f64.format.order x2 14054727237768577024 == some .lt) = false) :
  Calls Tryz.prog 119 #[.int .u64 d,.int .i64 n,.bool false] w fun r w' => r = .returned (.tuple #[.float .f64 z,.bool true]) ∧ w = w':=by
 have h1:=Zjl d hd;have hx2:=of_int d;rw [hx] at hx2;(have h0 : ((n : Int) == 0) = false:=by simp;omega);have hop : ∀ t w,(binOp .mul t (.float .f64 x) (.float .f64 y)).run Tryz.prog w = .ok (.float .f64 x2) w:=fun t w => run_float_arith w .mul t .f64 x y x2 hm;have hop2 : ∀ t w,(binOp .mul t (.float .f64 x2) (.float .f64 y2)).run Tryz.prog w = .ok (.float .f64 z) w:=fun t w => run_float_arith w .mul t .f64 x2 y2 z hz;(have hsub : ((n : Int) - 22).toNat = n - 22:=by omega);clear hz hm;go_enter Tryz.func119,Tryz.ntmps119;go_wp2;go_ret2;exact ⟨rfl,rfl⟩
theorem ZgI (d x x2 y n cap : Nat) (ab ao : Nat) (w : World) (hd : d < 4503599627370496) (hx : Ieee.double.nearest false d 0 = x) (hn1 : 23 ≤ n) (hn2 : n ≤ 37) (hi : w.cell? ⟨8,0,none⟩ = some (.int .u64 52))
  (hs : w.cell? ⟨11,0,none⟩ = some (.slice (some ⟨ab,ao,none⟩) 23 cap)) (hy : w.cell? ⟨ab,ao + (n - 22),none⟩ = some (.float .f64 y)) (hm : Ieee.double.mul x y = some x2)
  (ho1 : (FloatKind.f64.format.order x2 4831355200913801216 == some .gt) = true) :
  Calls Tryz.prog 119 #[.int .u64 d,.int .i64 n,.bool false] w fun r w' => r = .returned (.tuple #[.float .f64 x2,.bool false]) ∧ w = w':=by
 have h1:=Zjl d hd;have hx2:=of_int d;rw [hx] at hx2;(have h0 : ((n : Int) == 0) = false:=by simp;omega);have hop : ∀ t w,(binOp .mul t (.float .f64 x) (.float .f64 y)).run Tryz.prog w = .ok (.float .f64 x2) w:=fun t w => run_float_arith w .mul t .f64 x y x2 hm;(have hsub : ((n : Int) - 22).toNat = n - 22:=by omega);clear hm;go_enter Tryz.func119,Tryz.ntmps119;go_wp2;go_ret2;exact ⟨rfl,rfl⟩
end Go.Proofs.YtfoekmfpcahmiabGreatDoor.SF
