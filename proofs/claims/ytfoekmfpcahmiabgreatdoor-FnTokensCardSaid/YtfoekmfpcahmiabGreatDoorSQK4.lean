/- This session's text, made small by mini.py. No condition beyond those typed. -/
import Derived.Test.YtfoekmfpcahmiabGreatDoorSQK3
namespace Go.Proofs.YtfoekmfpcahmiabGreatDoor.SF
theorem val_two {ds : List Nat} {dp : Int} {D : Nat} {z E : Int} (hv : Val ds dp D z E) : ∃ a b : Nat,dp - ds.length = E + a - b ∧ numL ds * 10 ^ a * 2 ^ (-z).toNat = D * 2 ^ z.toNat * 10 ^ b:=by
 obtain ⟨a,b,l,n,h1,h2,h3⟩:=hv;refine ⟨a,b,h1,?_⟩;rcases Nat.le_total l n with h | h
 ·obtain ⟨t,rfl⟩:=Nat.le.dest h;rw [show (-z).toNat = t by omega,show z.toNat = 0 by omega,Nat.pow_zero,Nat.mul_one];apply Nat.eq_of_mul_eq_mul_right (Nat.pow_pos (n:=l) (show 0 < 2 by omega))
  calc numL ds * 10 ^ a * 2 ^ t * 2 ^ l = numL ds * 10 ^ a * 2 ^ (l + t):=by rw [Nat.pow_add];ac_rfl
   _ = D * 10 ^ b * 2 ^ l:=by rw [h3];ac_rfl
 ·obtain ⟨t,rfl⟩:=Nat.le.dest h;rw [show (-z).toNat = 0 by omega,show z.toNat = t by omega,Nat.pow_zero,Nat.mul_one];apply Nat.eq_of_mul_eq_mul_right (Nat.pow_pos (n:=n) (show 0 < 2 by omega));rw [h3,Nat.pow_add];ac_rfl
theorem Zon {ds : List Nat} (h : ds.getD 0 0 ≠ 0) : ds.getD 0 0 * 10 ^ (ds.length - 1) ≤ numL ds:=by
 rcases ds with _ | ⟨c,l⟩
 ·exact absurd rfl h
 ·rw [Zb7,List.length_cons,Nat.add_sub_cancel];show c * _ ≤ _;omega
theorem ZlF {ds : List Nat} {dp : Int} {D t : Nat} {z E : Int} (h0 : ds.getD 0 0 ≠ 0) (ht : t ≤ ds.getD 0 0) (hv : Val ds dp D z E) (c d : Nat) (hcd : (c : Int) - d = dp - 1) :
  t * 10 ^ c * (2 ^ (-z).toNat * 10 ^ (-E).toNat) ≤ D * 2 ^ z.toNat * 10 ^ E.toNat * 10 ^ d:=by
 obtain ⟨a,b,h1,h3⟩:=val_two hv
 have hl : 1 ≤ ds.length:=by
  rcases Nat.eq_zero_or_pos ds.length with h | h
  ·exact absurd (ZbD _ (Nat.le_of_eq h)) h0
  ·exact h
 have hN:=Zon h0;apply Nat.le_of_mul_le_mul_right (c:=10 ^ b) ?_ (Nat.pow_pos (by omega))
 have e1 : D * 2 ^ z.toNat * 10 ^ E.toNat * 10 ^ d * 10 ^ b = numL ds * (10 ^ (a + E.toNat + d) * 2 ^ (-z).toNat):=by
  calc D * 2 ^ z.toNat * 10 ^ E.toNat * 10 ^ d * 10 ^ b = (D * 2 ^ z.toNat * 10 ^ b) * 10 ^ E.toNat * 10 ^ d:=by ac_rfl
   _ = numL ds * (10 ^ (a + E.toNat + d) * 2 ^ (-z).toNat):=by rw [← h3,Nat.pow_add,Nat.pow_add];ac_rfl
 have e2 : t * 10 ^ c * (2 ^ (-z).toNat * 10 ^ (-E).toNat) * 10 ^ b = t * 10 ^ (ds.length - 1) * (10 ^ (a + E.toNat + d) * 2 ^ (-z).toNat):=by
  calc t * 10 ^ c * (2 ^ (-z).toNat * 10 ^ (-E).toNat) * 10 ^ b = t * 10 ^ (c + (-E).toNat + b) * 2 ^ (-z).toNat:=by rw [Nat.pow_add,Nat.pow_add];ac_rfl
   _ = t * 10 ^ (ds.length - 1 + (a + E.toNat + d)) * 2 ^ (-z).toNat:=by rw [show c + (-E).toNat + b = ds.length - 1 + (a + E.toNat + d) by omega]
   _ = _:=by rw [Nat.pow_add];ac_rfl
 rw [e1,e2];exact Nat.mul_le_mul_right _ (Nat.le_trans (Nat.mul_le_mul_right _ ht) hN)
theorem Zh1 {ds : List Nat} {dp : Int} {D : Nat} {z E : Int} (h0 : ds.getD 0 0 ≠ 0) (hv : Val ds dp D z E) (c d : Nat) (hcd : (c : Int) - d = dp - 1) :
  10 ^ c * (2 ^ (-z).toNat * 10 ^ (-E).toNat) ≤ D * 2 ^ z.toNat * 10 ^ E.toNat * 10 ^ d:=by
 have:=ZlF h0 (Nat.pos_of_ne_zero h0 : 1 ≤ ds.getD 0 0) hv c d hcd;rw [Nat.one_mul] at this;exact this
theorem Zh2 {ds : List Nat} {dp : Int} {D t : Nat} {z E : Int} (hten : ∀ i,ds.getD i 0 < 10) (h0 : ds.getD 0 0 ≠ 0) (ht : ds.getD 0 0 < t) (hv : Val ds dp D z E) (c d : Nat) (hcd : (c : Int) - d = dp - 1) :
  D * 2 ^ z.toNat * 10 ^ E.toNat * 10 ^ d < t * 10 ^ c * (2 ^ (-z).toNat * 10 ^ (-E).toNat):=by
 obtain ⟨a,b,h1,h3⟩:=val_two hv
 have hl : 1 ≤ ds.length:=by
  rcases Nat.eq_zero_or_pos ds.length with h | h
  ·exact absurd (ZbD _ (Nat.le_of_eq h)) h0
  ·exact h
 have hN : numL ds < t * 10 ^ (ds.length - 1):=by
  rcases ds with _ | ⟨x,l⟩
  ·exact absurd rfl h0
  ·have h5:=Zel l (fun i => hten (i + 1));rw [Zb7,List.length_cons,Nat.add_sub_cancel];have : (x + 1) * 10 ^ l.length ≤ t * 10 ^ l.length:=Nat.mul_le_mul_right _ ht;rw [Nat.add_mul,Nat.one_mul] at this;omega
 apply Nat.lt_of_mul_lt_mul_right (a:=10 ^ b)
 have e1 : D * 2 ^ z.toNat * 10 ^ E.toNat * 10 ^ d * 10 ^ b = numL ds * (10 ^ (a + E.toNat + d) * 2 ^ (-z).toNat):=by
  calc D * 2 ^ z.toNat * 10 ^ E.toNat * 10 ^ d * 10 ^ b = (D * 2 ^ z.toNat * 10 ^ b) * 10 ^ E.toNat * 10 ^ d:=by ac_rfl
   _ = numL ds * (10 ^ (a + E.toNat + d) * 2 ^ (-z).toNat):=by rw [← h3,Nat.pow_add,Nat.pow_add];ac_rfl
 have e2 : t * 10 ^ c * (2 ^ (-z).toNat * 10 ^ (-E).toNat) * 10 ^ b = t * 10 ^ (ds.length - 1) * (10 ^ (a + E.toNat + d) * 2 ^ (-z).toNat):=by
  calc t * 10 ^ c * (2 ^ (-z).toNat * 10 ^ (-E).toNat) * 10 ^ b = t * 10 ^ (c + (-E).toNat + b) * 2 ^ (-z).toNat:=by rw [Nat.pow_add,Nat.pow_add];ac_rfl
   _ = t * 10 ^ (ds.length - 1 + (a + E.toNat + d)) * 2 ^ (-z).toNat:=by rw [show c + (-E).toNat + b = ds.length - 1 + (a + E.toNat + d) by omega]
   _ = _:=by rw [Nat.pow_add];ac_rfl
 rw [e1,e2];exact Nat.mul_lt_mul_of_pos_right hN (Nat.mul_pos (Nat.pow_pos (by omega)) (Nat.pow_pos (by omega)))
theorem Zh0 {ds : List Nat} {dp : Int} {D : Nat} {z E : Int} (hten : ∀ i,ds.getD i 0 < 10) (h0 : ds.getD 0 0 ≠ 0) (hv : Val ds dp D z E) (c d : Nat) (hcd : (c : Int) - d = dp) :
  D * 2 ^ z.toNat * 10 ^ E.toNat * 10 ^ d < 10 ^ c * (2 ^ (-z).toNat * 10 ^ (-E).toNat):=by
 have h:=Zh2 hten h0 (hten 0) hv c (d + 1) (by omega);rw [Nat.pow_succ] at h
 generalize 2 ^ (-z).toNat * 10 ^ (-E).toNat = Y at *
 (have e : 10 * 10 ^ c * Y = 10 ^ c * Y * 10:=by ac_rfl);rw [e,← Nat.mul_assoc] at h;exact Nat.lt_of_mul_lt_mul_right h
open Go.RowKit YtfoekmfpcahmiabGreatDoorW.PrintWords CB
def fwd (P : Program) (c : Code) (Q : Exit → Act → World → Prop) : Nat → Exit → Act → World → Prop
  | 0 => Exit.noGoto Q
  | n + 1 => fun e a w => match e with
    | .goto l => ∃ rest,findLabel c l = some rest ∧ rest.wp P (fwd P c Q n) a w
    | e => Q e a w
theorem ZfA {P : Program} {c : Code} {Q : Exit → Act → World → Prop} {n l : Nat} {a : Act} {w : World} (rest : Code) (h : findLabel c l = some rest) (hw : rest.wp P (fwd P c Q n) a w) : fwd P c Q (n + 1) (.goto l) a w:=⟨rest,h,hw⟩
@[go_sem] theorem ZhI {P : Program} {c : Code} {Q : Exit → Act → World → Prop} {n : Nat} {a : Act} {w : World} : fwd P c Q n .ret a w = Q .ret a w:=by cases n <;> rfl
theorem ZhX {P : Program} {c : Code} {Q : Exit → Act → World → Prop} {a : Act} {w : World} (n : Nat) (h : c.wp P (fwd P c Q n) a w) : (Code.scope c).wp P Q a w:=by
 intro b k cs
 have key : ∀ (n : Nat) (x : Code) (a : Act) (w : World),x.wp P (fwd P c Q n) a w → ∃ e a' w',Q e a' w' ∧ Arrives P (lone (b.at a (.code x :: .inScope c :: k)) cs w) b k cs e a' w':=by
  intro n
  induction n with
  | zero =>
   intro x a w hx;obtain ⟨e,a₁,w₁,hq,harr⟩:=hx b (.inScope c :: k) cs
   cases e with
   | normal => exact ⟨.normal,a₁,w₁,hq,Steps.trans harr (.one step_inScope)⟩
   | exit id => exact ⟨.exit id,a₁,w₁,hq,fun k' hk => harr k' (by simp [exitTo,hk])⟩
   | goto l => exact hq.elim
   | ret => exact ⟨_,a₁,w₁,hq,harr⟩
   | panic ch => exact ⟨_,a₁,w₁,hq,harr⟩
   | outgrown => exact ⟨_,a₁,w₁,hq,harr⟩
  | succ n ih =>
   intro x a w hx;obtain ⟨e,a₁,w₁,hq,harr⟩:=hx b (.inScope c :: k) cs
   cases e with
   | normal => exact ⟨.normal,a₁,w₁,hq,Steps.trans harr (.one step_inScope)⟩
   | exit id => exact ⟨.exit id,a₁,w₁,hq,fun k' hk => harr k' (by simp [exitTo,hk])⟩
   | goto l =>
    obtain ⟨rest,hf,hr⟩:=hq;obtain ⟨e₂,a₂,w₂,hq₂,harr₂⟩:=ih rest a₁ w₁ hr;(have hg : gotoIn l (.inScope c :: k) = some (.code rest :: .inScope c :: k):=by simp [gotoIn,hf]);exact ⟨e₂,a₂,w₂,hq₂,.of_steps (harr _ hg) harr₂⟩
   | ret => exact ⟨_,a₁,w₁,hq,harr⟩
   | panic ch => exact ⟨_,a₁,w₁,hq,harr⟩
   | outgrown => exact ⟨_,a₁,w₁,hq,harr⟩
 obtain ⟨e,a₁,w₁,hq,harr⟩:=key n c a w h
 cases e with
 | normal => exact ⟨.normal,a₁,w₁,hq,.head step_scope harr⟩
 | exit id => exact ⟨.exit id,a₁,w₁,hq,fun k' hk => .head step_scope (harr k' hk)⟩
 | goto l => exact ⟨.goto l,a₁,w₁,hq,fun k' hk => .head step_scope (harr k' hk)⟩
 | ret => exact ⟨_,a₁,w₁,hq,.of_steps (.one step_scope) harr⟩
 | panic ch => exact ⟨_,a₁,w₁,hq,.of_steps (.one step_scope) harr⟩
 | outgrown => exact ⟨_,a₁,w₁,hq,.of_steps (.one step_scope) harr⟩
def pw (i : Nat) : Nat:=if 9 ≤ i then 27 else [1,3,6,9,13,16,19,23,26].getD i 0
theorem pw_le (i : Nat) : pw i ≤ 27:=by
 unfold pw;split
 ·omega
 ·(have : i = 0 ∨ i = 1 ∨ i = 2 ∨ i = 3 ∨ i = 4 ∨ i = 5 ∨ i = 6 ∨ i = 7 ∨ i = 8:=by omega);rcases this with rfl | rfl | rfl | rfl | rfl | rfl | rfl | rfl | rfl <;> decide
theorem Zmu (i : Nat) : 1 ≤ pw i:=by
 unfold pw;split
 ·omega
 ·(have : i = 0 ∨ i = 1 ∨ i = 2 ∨ i = 3 ∨ i = 4 ∨ i = 5 ∨ i = 6 ∨ i = 7 ∨ i = 8:=by omega);rcases this with rfl | rfl | rfl | rfl | rfl | rfl | rfl | rfl | rfl <;> decide
theorem Zo3 (i : Nat) (h : 1 ≤ i) : 2 ^ pw i ≤ 9 * 10 ^ (i - 1):=by
 unfold pw;split
 ·have : (10 : Nat) ^ 8 ≤ 10 ^ (i - 1):=Nat.pow_le_pow_right (by omega) (by omega);(have e : (2 : Nat) ^ 27 ≤ 9 * 10 ^ 8:=by decide);omega
 ·(have : i = 1 ∨ i = 2 ∨ i = 3 ∨ i = 4 ∨ i = 5 ∨ i = 6 ∨ i = 7 ∨ i = 8:=by omega);rcases this with rfl | rfl | rfl | rfl | rfl | rfl | rfl | rfl <;> decide
structure On (B D : Nat) (E : Int) (w wr : World) (es : List Nat) (g : Nat → Value) (q z : Int) : Prop where
 arr : Arr wr B g
 dec : Dec g es q false false
 top : es.getD 0 0 ≠ 0
 val : Val es q D z E
 bel : Below B w wr
 fine : Good es ∨ es.length ≤ 60
@[irreducible] def top2 : Nat:=2 ^ 1024
@[irreducible] def T700 : Nat:=10 ^ 700
@[irreducible] def T331 : Nat:=10 ^ 331
@[irreducible] def ZhU : Nat:=2 ^ 1200
theorem ZgL (m k : Nat) (h : m ≤ k) : 10 ^ m ≤ 10 ^ k:=Nat.pow_le_pow_right (by omega) h
theorem Zj3 (m k : Nat) (h : m ≤ k) : 2 ^ m ≤ 2 ^ k:=Nat.pow_le_pow_right (by omega) h
theorem ZnK (k : Nat) (h : 700 ≤ k) : T700 ≤ 10 ^ k:=by unfold T700;exact ZgL 700 k h
theorem ZkE (k : Nat) (h : k ≤ 1200) : 2 ^ k ≤ ZhU:=by unfold ZhU;exact Zj3 k 1200 h
structure Num (D : Nat) (E : Int) : Prop where
 pos : 1 ≤ D
 few : D < 10 ^ 60
 hi : D * 10 ^ E.toNat < top2 * 10 ^ (-E).toNat
 lo : 10 ^ (-E).toNat ≤ D * 10 ^ E.toNat * T331
theorem On.len {B D : Nat} {E : Int} {w wr : World} {es : List Nat} {g : Nat → Value} {q z : Int} (h : On B D E w wr es g q z) (M : Nat) (hM : 60 ≤ M) (hb : D * 2 ^ z.toNat * 5 ^ (-z).toNat < 10 ^ M) : es.length ≤ M:=by
 rcases h.fine with hg | hl
 ·exact ZmV hg (ZlG hg h.dec.ten h.val) hb
 ·omega
theorem Zo6 (b m k : Nat) (hb : 0 < b) (h : m ≤ k) : b ^ m ≤ b ^ k:=Nat.pow_le_pow_right hb h
theorem lt_16 {a b c : Nat} (h : a ≤ 9 * b) (h2 : b < c) : a < 16 * c:=by omega
theorem big_16 : (2 : Nat) ^ 1028 = 16 * top2:=by decide +kernel
theorem big_a : ZhU * T331 ≤ T700:=by decide +kernel
theorem big_b : ZhU * top2 < T700:=by decide +kernel
def Down (D : Nat) (E z : Int) : Prop:=2 ^ (-z).toNat * 10 ^ (-E).toNat ≤ 9 * (D * 10 ^ E.toNat) ∨ 0 ≤ z
theorem Down.z {D : Nat} {E z : Int} (h : Down D E z) (hn : Num D E) : -1028 ≤ z:=by
 rcases h with h | h
 ·have h1 : 2 ^ (-z).toNat * 10 ^ (-E).toNat < 2 ^ 1028 * 10 ^ (-E).toNat:=by
   have h2:=hn.hi;rw [big_16,Nat.mul_assoc];exact lt_16 h h2
  have h4:=Nat.lt_of_mul_lt_mul_right h1;have:=(Nat.pow_lt_pow_iff_right (show 1 < 2 by omega)).1 h4;omega
 ·omega
theorem ZoP : (10 : Nat) ^ 60 * 5 ^ 1028 * 2 ^ 27 < 10 ^ 800:=by decide +kernel
theorem On.room {B D : Nat} {E : Int} {w wr : World} {es : List Nat} {g : Nat → Value} {q z : Int} (h : On B D E w wr es g q z) (hn : Num D E) (hz : z ≤ 0) (n : Nat) (hn27 : n ≤ 27) (hd : Down D E (z - n)) : es.length + n ≤ 800:=by
 have h1:=hd.z hn;have hf:=hn.few
 have hM : D * 2 ^ z.toNat * 5 ^ (-z).toNat < 10 ^ (800 - n):=by
  rw [show z.toNat = 0 by omega,Nat.pow_zero,Nat.mul_one];apply Nat.lt_of_mul_lt_mul_right (a:=10 ^ n);rw [← Nat.pow_add,show 800 - n + n = 800 by omega];refine Nat.lt_of_le_of_lt ?_ ZoP
  calc D * 5 ^ (-z).toNat * 10 ^ n = D * 5 ^ ((-z).toNat + n) * 2 ^ n:=by rw [show (10 : Nat) ^ n = 5 ^ n * 2 ^ n by rw [← Nat.mul_pow],Nat.pow_add];ac_rfl
   _ ≤ 10 ^ 60 * 5 ^ 1028 * 2 ^ 27:=Nat.mul_le_mul (Nat.mul_le_mul (Nat.le_of_lt hf) (Nat.pow_le_pow_right (by omega) (by omega))) (Nat.pow_le_pow_right (by omega) hn27)
 have:=h.len (800 - n) (by omega) hM;omega
theorem On.down {B D : Nat} {E : Int} {w wr : World} {es : List Nat} {g : Nat → Value} {q z : Int} (h : On B D E w wr es g q z) (hz : z ≤ 0) (hq : 0 < q) : Down D E (z - (pw q.toNat : Nat)):=by
 left;have h1:=Zh1 h.top h.val (q - 1).toNat 0 (by omega);have h2:=Zo3 q.toNat (by omega);rw [show z.toNat = 0 by omega] at h1;simp only [Nat.pow_zero,Nat.mul_one] at h1;rw [show (-(z - (pw q.toNat : Nat))).toNat = (-z).toNat + pw q.toNat by omega,Nat.pow_add];rw [show q.toNat - 1 = (q - 1).toNat by omega] at h2
 calc 2 ^ (-z).toNat * 2 ^ pw q.toNat * 10 ^ (-E).toNat = 2 ^ pw q.toNat * (2 ^ (-z).toNat * 10 ^ (-E).toNat):=by ac_rfl
  _ ≤ 9 * 10 ^ (q - 1).toNat * (2 ^ (-z).toNat * 10 ^ (-E).toNat):=Nat.mul_le_mul_right _ h2
  _ = 9 * (10 ^ (q - 1).toNat * (2 ^ (-z).toNat * 10 ^ (-E).toNat)):=by ac_rfl
  _ ≤ 9 * (D * 10 ^ E.toNat):=Nat.mul_le_mul_left _ h1
theorem On.near {B D : Nat} {E : Int} {w wr : World} {es : List Nat} {g : Nat → Value} {q z : Int} (h : On B D E w wr es g q z) (hn : Num D E) (hz1 : -1200 ≤ z) (hz2 : z ≤ 1200) : -700 ≤ q ∧ q ≤ 700:=by
 constructor
 ·rcases Int.lt_or_le q (-700) with hq | hq
  ·exfalso;have h1:=Zh0 h.dec.ten h.top h.val 0 (-q).toNat (by omega);have h2:=hn.lo;have h3:=ZnK (-q).toNat (by omega);have h4:=ZkE (-z).toNat (by omega);have hp : 1 ≤ 2 ^ z.toNat:=Nat.pow_pos (by omega);rw [Nat.pow_zero,Nat.one_mul] at h1
   have h6 : D * 10 ^ E.toNat * T700 ≤ D * 2 ^ z.toNat * 10 ^ E.toNat * 10 ^ (-q).toNat:=by
    refine Nat.mul_le_mul ?_ h3;exact Nat.mul_le_mul_right _ (Nat.le_mul_of_pos_right _ hp)
   have h7 : 2 ^ (-z).toNat * 10 ^ (-E).toNat ≤ D * 10 ^ E.toNat * T700:=by
    calc 2 ^ (-z).toNat * 10 ^ (-E).toNat ≤ ZhU * (D * 10 ^ E.toNat * T331):=Nat.mul_le_mul h4 h2
     _ = D * 10 ^ E.toNat * (ZhU * T331):=Nat.mul_left_comm _ _ _
     _ ≤ _:=Nat.mul_le_mul_left _ big_a
   exact absurd (Nat.lt_of_le_of_lt h6 h1) (Nat.not_lt.2 h7)
  ·exact hq
 ·rcases Int.lt_or_le 700 q with hq | hq
  ·exfalso;have h1:=Zh1 h.top h.val (q - 1).toNat 0 (by omega);have h2:=hn.hi;have h3:=ZnK (q - 1).toNat (by omega);have h4:=ZkE z.toNat (by omega);rw [Nat.pow_zero,Nat.mul_one] at h1;have hp : 1 ≤ 2 ^ (-z).toNat:=Nat.pow_pos (by omega);have hp2 : 0 < 10 ^ (-E).toNat:=Nat.pow_pos (by omega);have h6 : T700 * 10 ^ (-E).toNat ≤ 10 ^ (q - 1).toNat * (2 ^ (-z).toNat * 10 ^ (-E).toNat):=Nat.mul_le_mul h3 (Nat.le_mul_of_pos_left _ hp)
   have h7 : D * 2 ^ z.toNat * 10 ^ E.toNat < T700 * 10 ^ (-E).toNat:=by
    calc D * 2 ^ z.toNat * 10 ^ E.toNat = D * 10 ^ E.toNat * 2 ^ z.toNat:=by ac_rfl
     _ ≤ top2 * 10 ^ (-E).toNat * ZhU:=Nat.mul_le_mul (Nat.le_of_lt h2) h4
     _ = ZhU * (top2 * 10 ^ (-E).toNat):=Nat.mul_comm _ _
     _ = ZhU * top2 * 10 ^ (-E).toNat:=(Nat.mul_assoc _ _ _).symm
     _ < _:=Nat.mul_lt_mul_of_pos_right big_b hp2
   exact absurd (Nat.lt_of_lt_of_le h7 h6) (Nat.not_lt.2 h1)
  ·exact hq
def Less (D : Nat) (E z : Int) (s t : Nat) : Prop:=D * 2 ^ z.toNat * 10 ^ E.toNat * s < t * (2 ^ (-z).toNat * 10 ^ (-E).toNat)
theorem ZfI (z : Int) (n : Nat) : 2 ^ (z + n).toNat * 2 ^ (-z).toNat = 2 ^ n * 2 ^ z.toNat * 2 ^ (-(z + n)).toNat:=by
 rw [← Nat.pow_add,← Nat.pow_add,← Nat.pow_add];congr 1;omega
theorem Less.up {D s t : Nat} {E z : Int} (h : Less D E z s t) (n : Nat) : Less D E (z + n) s (t * 2 ^ n):=by
 have hc:=ZfI z n
 unfold Less at *
 have hp : 0 < 2 ^ (-(z + n)).toNat:=Nat.pow_pos (by omega);have hp2 : 0 < 2 ^ n:=Nat.pow_pos (by omega)
 generalize 2 ^ (z + n).toNat = a at *
 generalize 2 ^ (-z).toNat = b at *
 generalize 2 ^ n = c at *
 generalize 2 ^ z.toNat = d at *
 generalize 2 ^ (-(z + n)).toNat = e at *
 generalize 10 ^ E.toNat = f at *
 generalize 10 ^ (-E).toNat = g at *
 have h1:=Nat.mul_lt_mul_of_pos_right h (Nat.mul_pos hp2 hp);apply Nat.lt_of_mul_lt_mul_right (a:=b)
 calc D * a * f * s * b = D * f * s * (a * b):=by ac_rfl
  _ = D * d * f * s * (c * e):=by rw [hc];ac_rfl
  _ < t * (b * g) * (c * e):=h1
  _ = t * c * (e * g) * b:=by ac_rfl
theorem Less.mono {D s t s' t' : Nat} {E z : Int} (h : Less D E z s t) (hs : 0 < s') (hm : t * s' ≤ t' * s) : Less D E z s' t':=by
 unfold Less at *
 generalize D * 2 ^ z.toNat * 10 ^ E.toNat = A at *
 generalize 2 ^ (-z).toNat * 10 ^ (-E).toNat = Q at *
 apply Nat.lt_of_mul_lt_mul_right (a:=s)
 calc A * s' * s = A * s * s':=by ac_rfl
  _ < t * Q * s':=Nat.mul_lt_mul_of_pos_right h hs
  _ = t * s' * Q:=by ac_rfl
  _ ≤ t' * s * Q:=Nat.mul_le_mul_right _ hm
  _ = t' * Q * s:=by ac_rfl
theorem On.up {B D : Nat} {E : Int} {w wr : World} {es : List Nat} {g : Nat → Value} {q z : Int} (h : On B D E w wr es g q z) (hq : q < 0 ∨ (q = 0 ∧ es.getD 0 0 < 5)) : Less D E (z + (pw (-q).toNat : Nat)) 1 1:=by
 rcases hq with hq | ⟨hq,ht⟩
 ·have h1 : Less D E z (10 ^ (-q).toNat) (10 ^ 0):=Zh0 h.dec.ten h.top h.val 0 (-q).toNat (by omega);refine (h1.up (pw (-q).toNat)).mono (by omega) ?_;have h2:=Zo3 (-q).toNat (by omega);(have h3 : 10 ^ (-q).toNat = 10 ^ ((-q).toNat - 1) * 10:=by rw [← Nat.pow_succ];congr 1;omega);omega
 ·subst hq;have h1 : Less D E z (10 ^ 1) (5 * 10 ^ 0):=Zh2 h.dec.ten h.top ht h.val 0 1 (by omega);exact (h1.up (pw (-(0 : Int)).toNat)).mono (by omega) (by decide)
theorem Less.le {B D : Nat} {E : Int} {w wr : World} {es : List Nat} {g : Nat → Value} {q z : Int} (h : On B D E w wr es g q z) (hl : Less D E z 1 1) : q ≤ 0:=by
 rcases Int.lt_or_le 0 q with hq | hq
 ·exfalso;have h1:=Zh1 h.top h.val (q - 1).toNat 0 (by omega);have h2:=hl.mono (s':=10 ^ 0) (t':=10 ^ (q - 1).toNat) (by decide) (by have : 1 ≤ 10 ^ (q - 1).toNat:=Nat.pow_pos (by omega);omega);exact absurd h2 (Nat.not_lt.2 h1)
 ·exact hq
theorem On.below {B D : Nat} {E : Int} {w wr : World} {es : List Nat} {g : Nat → Value} {q z : Int} (h : On B D E w wr es g q z) (hq : q ≤ 0) : Less D E z 1 1:=by
 have h1 : Less D E z (10 ^ (-q).toNat) (10 ^ 0):=Zh0 h.dec.ten h.top h.val 0 (-q).toNat (by omega);exact h1.mono (by omega) (by have : 1 ≤ 10 ^ (-q).toNat:=Nat.pow_pos (by omega);omega)
theorem T331_lt : T331 < 2 ^ 1100:=by decide +kernel
theorem T331_le (k : Nat) (h : 1100 ≤ k) : T331 < 2 ^ k:=Nat.lt_of_lt_of_le T331_lt (Zj3 1100 k h)
theorem Less.z {D : Nat} {E z : Int} (h : Less D E z 1 1) (hn : Num D E) : z < 1100:=by
 rcases Int.lt_or_le z 1100 with hz | hz
 ·exact hz
 ·exfalso;have h1:=hn.lo;have h2:=T331_le z.toNat (by omega);have hp:=hn.pos;unfold Less at h;rw [show (-z).toNat = 0 by omega,Nat.pow_zero,Nat.one_mul,Nat.one_mul,Nat.mul_one] at h;have h3 : D * 10 ^ E.toNat * T331 ≤ D * 10 ^ E.toNat * 2 ^ z.toNat:=Nat.mul_le_mul_left _ (Nat.le_of_lt h2);(have h4 : D * 2 ^ z.toNat * 10 ^ E.toNat = D * 10 ^ E.toNat * 2 ^ z.toNat:=by ac_rfl);omega
theorem Down.up {D : Nat} {E z : Int} (h : Down D E z) (n : Nat) : Down D E (z + n):=by
 rcases h with h | h
 ·left;refine Nat.le_trans (Nat.mul_le_mul_right _ (Nat.pow_le_pow_right (by omega) ?_)) h;omega
 ·right;omega
@[irreducible] def F1028 : Nat:=5 ^ 1028
@[irreducible] def ZoT : Nat:=2 ^ 1100
@[irreducible] def T60 : Nat:=10 ^ 60
@[irreducible] def ZoV : Nat:=2 ^ 1025
theorem F_ge (k : Nat) (h : k ≤ 1028) : 5 ^ k ≤ F1028:=by unfold F1028;exact Zo6 5 k 1028 (by omega) h
theorem P_ge (k : Nat) (h : k ≤ 1100) : 2 ^ k ≤ ZoT:=by unfold ZoT;exact Zj3 k 1100 h
theorem P_le (k : Nat) (h : 1025 ≤ k) : ZoV ≤ 2 ^ k:=by unfold ZoV;exact Zj3 1025 k h
theorem T_gt (D : Nat) (h : D < 10 ^ 60) : D ≤ T60:=by unfold T60;exact Nat.le_of_lt h
theorem big_c : T60 * F1028 < 10 ^ 779:=by decide +kernel
theorem big_d : T60 * ZoT < 10 ^ 392:=by decide +kernel
theorem big_e : T60 * ZoT < 10 ^ 779:=by decide +kernel
theorem few_up {D : Nat} {z : Int} (hD : D < 10 ^ 60) (h1 : -1028 ≤ z) (h2 : z ≤ 1100) : D * 2 ^ z.toNat * 5 ^ (-z).toNat < 10 ^ 779:=by
 have hD:=T_gt D hD;rcases Int.lt_or_le z 0 with h | h
 ·rw [show z.toNat = 0 by omega,Nat.pow_zero,Nat.mul_one];exact Nat.lt_of_le_of_lt (Nat.mul_le_mul hD (F_ge _ (by omega))) big_c
 ·rw [show (-z).toNat = 0 by omega,Nat.pow_zero,Nat.mul_one];exact Nat.lt_of_le_of_lt (Nat.mul_le_mul hD (P_ge _ (by omega))) big_e
theorem Zm6 {D : Nat} {z : Int} (hD : D < 10 ^ 60) (h1 : 0 ≤ z) (h2 : z ≤ 1100) : D * 2 ^ z.toNat * 5 ^ (-z).toNat < 10 ^ 392:=by
 rw [show (-z).toNat = 0 by omega,Nat.pow_zero,Nat.mul_one];exact Nat.lt_of_le_of_lt (Nat.mul_le_mul (T_gt D hD) (P_ge _ (by omega))) big_d
theorem On.roomUp {B D : Nat} {E : Int} {w wr : World} {es : List Nat} {g : Nat → Value} {q z : Int} (h : On B D E w wr es g q z) (hn : Num D E) (h1 : -1028 ≤ z) (h2 : z ≤ 1100) : es.length ≤ 779 :=
 h.len 779 (by omega) (few_up hn.few h1 h2)
theorem On.half {B D : Nat} {E : Int} {w wr : World} {es : List Nat} {g : Nat → Value} {q z : Int} (h : On B D E w wr es g q z) (hq : q = 0) (ht : 5 ≤ es.getD 0 0) : 2 ^ (-z).toNat * 10 ^ (-E).toNat ≤ 2 * (D * 2 ^ z.toNat * 10 ^ E.toNat):=by
 have h1:=ZlF h.top ht h.val 0 1 (by omega);omega
theorem ZoO : ZoV = 2 * top2:=by decide +kernel
theorem half_z {D : Nat} {E z : Int} (hn : Num D E) (h : 2 ^ (-z).toNat * 10 ^ (-E).toNat ≤ 2 * (D * 2 ^ z.toNat * 10 ^ E.toNat)) : -1024 ≤ z:=by
 rcases Int.lt_or_le z (-1024) with hz | hz
 ·exfalso;have h1:=hn.hi;rw [show z.toNat = 0 by omega,Nat.pow_zero,Nat.mul_one] at h;have h2 : ZoV * 10 ^ (-E).toNat ≤ 2 ^ (-z).toNat * 10 ^ (-E).toNat:=Nat.mul_le_mul_right _ (P_le _ (by omega));rw [ZoO,Nat.mul_assoc] at h2;omega
 ·exact hz
open CQ
structure OnAt (B D : Nat) (E : Int) (w wr : World) (z : Int) : Prop where mk ::
 out : ∃ es g q,On B D E w wr es g q z ∧ Good es
theorem ZdQ.on {B D : Nat} {E : Int} {w wr w' : World} {z : Int} {lo hi : Int} (h : ZdQ B wr w' D z E false false lo hi) (hb : Below B w wr) : OnAt B D E w w' z:=by
 obtain ⟨es,q,⟨g,m1,m2,m3⟩,h2,h3,h4,h5⟩:=h.out;exact ⟨es,g,q,⟨m1,m2,h2.top,h3,hb.trans m3,.inl h2⟩,h2⟩
theorem On.ZnA {B D : Nat} {E : Int} {w wr : World} {es : List Nat} {g : Nat → Value} {q z : Int} (h : On B D E w wr es g q z) (hn : Num D E) (hz : z ≤ 0) (hdn : Down D E z) (hq : 0 < q) :
  Calls Tryz.prog 136 #[.pointer (some ⟨B,0,none⟩),.int .i64 (-((pw q.toNat : Nat) : Int))] wr fun e w' => e = .returned (.tuple #[]) ∧ OnAt B D E w w' (z - (pw q.toNat : Nat)):=by
 have h1:=hdn.z hn;obtain ⟨n1,n2⟩:=h.near hn (by omega) (by omega);have p1:=pw_le q.toNat;have p2:=Zmu q.toNat;have hroom:=h.room hn hz (pw q.toNat) p1 (h.down hz hq);refine (Zgv B (pw q.toNat) g es q D z E false false wr h.arr h.dec p2 (by omega) h.top h.val (by omega) (fun j _ _ => by omega) (by omega) (by omega)).mono ?_;rintro e w' ⟨rfl,hs⟩;exact ⟨rfl,hs.on h.bel⟩
theorem On.Znz {B D : Nat} {E : Int} {w wr : World} {es : List Nat} {g : Nat → Value} {q z : Int} (h : On B D E w wr es g q z) (hn : Num D E) (hc : Zc7 w B) (hz1 : -1028 ≤ z) (hz2 : z < 1100) (n : Nat) (hn1 : 1 ≤ n) (hn2 : n ≤ 60) :
  Calls Tryz.prog 136 #[.pointer (some ⟨B,0,none⟩),.int .i64 n] wr fun e w' => e = .returned (.tuple #[]) ∧ OnAt B D E w w' (z + n):=by
 obtain ⟨m1,m2⟩:=h.near hn (by omega) (by omega);have hroom:=h.roomUp hn hz1 (by omega);refine (Zlx B n g es q D z E false false wr (hc.below h.bel) h.arr h.dec hn1 (by omega) h.top h.val (by omega) (fun _ => by omega) (by omega) (by omega)).mono ?_;rintro e w' ⟨rfl,hs⟩;exact ⟨rfl,hs.on h.bel⟩
theorem few_ten {D k : Nat} {z : Int} (hD : D < 10 ^ 60) (h1 : 0 ≤ z) (h2 : z ≤ 1100) (hk : 392 ≤ k) : D * 2 ^ z.toNat * 5 ^ (-z).toNat < 10 ^ k:=Nat.lt_of_lt_of_le (Zm6 hD h1 h2) (Zo6 10 392 k (by omega) hk)
theorem On.ZoK {B D : Nat} {E : Int} {w wr : World} {es : List Nat} {g : Nat → Value} {q z : Int} (h : On B D E w wr es g q z) (hn : Num D E) (hz1 : 1021 < z) (hz2 : z < 1100) :
  Calls Tryz.prog 136 #[.pointer (some ⟨B,0,none⟩),.int .i64 (-(((z - 1021).toNat : Nat) : Int))] wr fun e w' => e = .returned (.tuple #[]) ∧ OnAt B D E w w' 1021:=by
 obtain ⟨m1,m2⟩:=h.near hn (by omega) (by omega);have hroom:=h.len 392 (by omega) (Zm6 hn.few (by omega) (by omega));have hs:=Zgv B (z - 1021).toNat g es q D z E false false wr h.arr h.dec (by omega) (by omega) h.top h.val (by omega) (fun j _ _ => few_ten hn.few (by omega) (by omega) (by omega)) (by omega) (by omega);rw [show z - ((z - 1021).toNat : Nat) = 1021 by omega] at hs;refine hs.mono ?_;rintro e w' ⟨rfl,hs⟩;exact ⟨rfl,hs.on h.bel⟩
theorem Zmh {A B C D : Nat} (hB : 0 < B) (hD : 0 < D) (h : A * D = C * B) : rneQ A B = rneQ C D:=by
 rw [← Zcl A B D hD,← Zcl C D B hB,h,Nat.mul_comm B D]
theorem Zof (ds : List Nat) (hten : ∀ i,ds.getD i 0 < 10) (p n : Nat) : ∃ t,pre ds (p + n) = pre ds p * 10 ^ n + t ∧ t < 10 ^ n:=by
 induction n with
 | zero => exact ⟨0,by simp,by simp⟩
 | succ n ih =>
  obtain ⟨t,h1,h2⟩:=ih;have h3:=hten (p + n);refine ⟨t * 10 + ds.getD (p + n) 0,?_,by rw [Nat.pow_succ];omega⟩;rw [← Nat.add_assoc,pre,h1,Nat.pow_succ,← Nat.mul_assoc];omega
theorem Zma (ds : List Nat) (hten : ∀ i,ds.getD i 0 < 10) (hg : Good ds) (p : Nat) (hp : p ≤ ds.length) : pre ds p + (rup ds p).toNat = rneQ (numL ds) (10 ^ (ds.length - p)):=by
 rcases Nat.eq_or_lt_of_le hp with he | hlt
 ·rw [he,Ze5,Nat.sub_self,Nat.pow_zero,Zj9];have : rup ds ds.length = false:=if_pos (Nat.le_refl _);rw [this];rfl
 ·obtain ⟨n,hn⟩ : ∃ n,ds.length = p + 1 + n:=⟨ds.length - p - 1,by omega⟩;obtain ⟨t,h1,h2⟩:=Zof ds hten (p + 1) n;rw [← hn,Ze5,pre] at h1;have hd:=hten p;have hlast:=Zkn hg hten
  have ht : t = 0 → n = 0:=by
   intro h0;rcases n with _ | n
   ·rfl
   ·exfalso;rw [h1,h0,Nat.add_zero,Nat.pow_succ,← Nat.mul_assoc,Nat.mul_mod_left] at hlast;exact hlast rfl
  rw [show ds.length - p = n + 1 by omega]
  have hx : numL ds = pre ds p * 10 ^ (n + 1) + (ds.getD p 0 * 10 ^ n + t):=by
   rw [h1,Nat.pow_succ,Nat.add_mul];(have : pre ds p * 10 * 10 ^ n = pre ds p * (10 ^ n * 10):=by ac_rfl);omega
  have hlt2 : ds.getD p 0 * 10 ^ n + t < 10 ^ (n + 1):=by
   have : (ds.getD p 0 + 1) * 10 ^ n ≤ 10 * 10 ^ n:=Nat.mul_le_mul_right _ hd;rw [Nat.add_mul] at this;rw [Nat.pow_succ];omega
  have hdiv : numL ds / 10 ^ (n + 1) = pre ds p:=by
   rw [hx,Nat.mul_comm,Nat.mul_add_div (Nat.pow_pos (by omega)),Nat.div_eq_of_lt hlt2,Nat.add_zero]
  have hmod : numL ds % 10 ^ (n + 1) = ds.getD p 0 * 10 ^ n + t:=by
   rw [hx,Nat.mul_comm,Nat.mul_add_mod,Nat.mod_eq_of_lt hlt2]
  unfold rneQ;rw [hdiv,hmod]
  congr 1
  have hodd : (0 < p ∧ ds.getD (p - 1) 0 % 2 = 1) ↔ pre ds p % 2 = 1:=by
   rcases p with _ | p
   ·simp [pre]
   ·rw [Nat.add_sub_cancel,pre];omega
  unfold rup;rw [if_neg (by omega)];(have hT : 10 ^ (n + 1) = 10 * 10 ^ n:=by rw [Nat.pow_succ,Nat.mul_comm]);rw [hT];have hTp : 0 < 10 ^ n:=Nat.pow_pos (by omega);(have hn1 : p + 1 = ds.length ↔ n = 0:=by omega);simp only [hn1];(have hn0 : n = 0 → t = 0:=by intro h0;rw [h0] at h2;simpa using h2);clear h1 hx hlt2 hdiv hmod hlast hn hn1 hg hlt hp
  generalize 10 ^ n = T at *
  generalize ds.getD p 0 = d at *
  (have hdd : d = 0 ∨ d = 1 ∨ d = 2 ∨ d = 3 ∨ d = 4 ∨ d = 5 ∨ d = 6 ∨ d = 7 ∨ d = 8 ∨ d = 9:=by omega);by_cases hn0' : n = 0
  ·have ht0:=hn0 hn0';subst ht0;by_cases h5 : d = 5
   ·subst h5;rw [if_pos ⟨rfl,hn0'⟩];by_cases ho : pre ds p % 2 = 1
    ·rw [decide_eq_true (hodd.2 ho),if_pos (.inr ⟨by omega,ho⟩)];rfl
    ·rw [decide_eq_false (fun h => ho (hodd.1 h)),if_neg (by omega)];rfl
   ·rw [if_neg (fun h => h5 h.1)];rcases hdd with rfl | rfl | rfl | rfl | rfl | rfl | rfl | rfl | rfl | rfl <;> first | exact absurd rfl h5 | (rw [if_neg (by omega)];rfl) | (rw [if_pos (by omega)];rfl)
  ·(have ht0 : 0 < t:=by omega);rw [if_neg (fun h => hn0' h.2)];rcases hdd with rfl | rfl | rfl | rfl | rfl | rfl | rfl | rfl | rfl | rfl <;> first | (rw [if_neg (by omega)];rfl) | (rw [if_pos (by omega)];rfl)
theorem Zmc {ds : List Nat} {dp : Int} {D : Nat} {z E : Int} (hten : ∀ i,ds.getD i 0 < 10) (hg : Good ds) (hv : Val ds dp D z E) (p : Nat) (hp : dp = p) :
  pre ds p + (rup ds p).toNat = rneQ (D * 2 ^ z.toNat * 10 ^ E.toNat) (2 ^ (-z).toNat * 10 ^ (-E).toNat):=by
 obtain ⟨a,b,h1,h2⟩:=val_two hv
 have key : ∀ X Y : Nat,(ds.length : Int) + X = p + Y → rneQ (numL ds * 10 ^ X) (10 ^ Y) = rneQ (D * 2 ^ z.toNat * 10 ^ E.toNat) (2 ^ (-z).toNat * 10 ^ (-E).toNat):=by
  intro X Y hXY;refine Zmh (Nat.pow_pos (by omega)) (Nat.mul_pos (Nat.pow_pos (by omega)) (Nat.pow_pos (by omega))) ?_;apply Nat.eq_of_mul_eq_mul_right (show 0 < 10 ^ a from Nat.pow_pos (by omega))
  calc numL ds * 10 ^ X * (2 ^ (-z).toNat * 10 ^ (-E).toNat) * 10 ^ a = (numL ds * 10 ^ a * 2 ^ (-z).toNat) * (10 ^ X * 10 ^ (-E).toNat):=by ac_rfl
   _ = D * 2 ^ z.toNat * (10 ^ b * 10 ^ X * 10 ^ (-E).toNat):=by rw [h2];ac_rfl
   _ = D * 2 ^ z.toNat * (10 ^ E.toNat * 10 ^ Y * 10 ^ a):=by
    rw [← Nat.pow_add,← Nat.pow_add,← Nat.pow_add,← Nat.pow_add]
    congr 2;omega
   _ = _:=by ac_rfl
 rcases Nat.le_total p ds.length with h | h
 ·rw [Zma ds hten hg p h,← key 0 (ds.length - p) (by omega),Nat.pow_zero,Nat.mul_one]
 ·obtain ⟨t,rfl⟩:=Nat.le.dest h;rw [Zfx,← key t 0 (by omega),Nat.pow_zero,Zj9];have : rup ds (ds.length + t) = false:=if_pos (by omega);rw [this];rfl
theorem Zka {A B : Nat} (h : 2 * A < B) : rneQ A B = 0:=by
 have h1 : A / B = 0:=Nat.div_eq_of_lt (by omega);have h2 : A % B = A:=Nat.mod_eq_of_lt (by omega);unfold rneQ;rw [h1,h2,if_neg (by omega)]
theorem Zmk {A B k : Nat} (hB : 0 < B) (h : A ≤ k * B) : rneQ A B ≤ k:=by
 have h1:=Nat.div_add_mod A B;have h2:=Nat.mod_lt A hB;unfold rneQ;rcases Nat.lt_or_ge (A / B) k with h3 | h3
 ·split <;> omega
 ·have h4 : k * B ≤ A / B * B:=Nat.mul_le_mul_right _ h3;rw [Nat.mul_comm] at h1;have h5 : A % B = 0:=by omega
  have h6 : A / B = k:=by
   apply Nat.eq_of_mul_eq_mul_right hB;omega
  rw [h5,h6,if_neg (by omega)];omega
theorem Zjo {A B k : Nat} (hB : 0 < B) (h : k * B ≤ A) : k ≤ rneQ A B:=by
 have h1 : k ≤ A / B:=(Nat.le_div_iff_mul_le hB).2 h;unfold rneQ;omega
theorem On.calls {B D : Nat} {E : Int} {w wr : World} {z : Int} (h : OnAt B D E w wr z) (hl : Less D E z 1 (2 ^ 53)) :
  Calls Tryz.prog 137 #[.pointer (some ⟨B,0,none⟩)] wr fun e w' => e = .returned (.int .u64 ((rneQ (D * 2 ^ z.toNat * 10 ^ E.toNat) (2 ^ (-z).toNat * 10 ^ (-E).toNat) : Nat) : Int)) ∧ wr = w':=by
 obtain ⟨es,g,q,h,hg⟩:=h.out;rcases Int.lt_or_le q 0 with hq | hq
 ·have h1 : Less D E z (10 ^ (-q).toNat) (10 ^ 0):=Zh0 h.dec.ten h.top h.val 0 (-q).toNat (by omega)
  have h2 : Less D E z 2 1:=h1.mono (by omega) (by
   have : 10 ^ 1 ≤ 10 ^ (-q).toNat:=Nat.pow_le_pow_right (by omega) (by omega)
   omega)
  rw [Zka (by unfold Less at h2;omega)];exact Zjm B g es q false wr h.arr h.dec hq
 ·have hq2 : q ≤ 16:=by
   rcases Int.lt_or_le 16 q with h16 | h16
   ·exfalso;have h1:=Zh1 h.top h.val (q - 1).toNat 0 (by omega)
    have h2:=hl.mono (s':=10 ^ 0) (t':=10 ^ (q - 1).toNat) (by decide) (by
     have h3 : 10 ^ 16 ≤ 10 ^ (q - 1).toNat:=Nat.pow_le_pow_right (by omega) (by omega);have h4 : (2 : Nat) ^ 53 ≤ 10 ^ 16:=by decide
     omega)
    exact absurd h2 (Nat.not_lt.2 h1)
   ·exact h16
  obtain ⟨p,rfl⟩ : ∃ p : Nat,q = p:=⟨q.toNat,by omega⟩;rw [← Zmc h.dec.ten hg h.val p rfl];exact Zhq B p g es false wr h.arr h.dec (by omega)
def Zft (m : Nat) (e : Int) : Nat:=min ((e + 1022).toNat * 4503599627370496 + m) 9218868437227405312
theorem Zlg {D : Nat} {E z : Int} (hlt : Less D E z 1 1) (hz : z ≤ 1021) (hge : z = 1021 ∨ 2 ^ (-z).toNat * 10 ^ (-E).toNat ≤ 2 * (D * 2 ^ z.toNat * 10 ^ E.toNat)) :
  ZbB (D * 10 ^ E.toNat) (10 ^ (-E).toNat) 0 (Zft (rneQ (D * 2 ^ (z + 53).toNat * 10 ^ E.toNat) (2 ^ (-(z + 53)).toNat * 10 ^ (-E).toNat)) (-z - 1)) ∧
  Less D E (z + 53) 1 (2 ^ 53) ∧ (z = 1021 ∨ 2 ^ 52 * (2 ^ (-(z + 53)).toNat * 10 ^ (-E).toNat) ≤ D * 2 ^ (z + 53).toNat * 10 ^ E.toNat):=by
 have hup:=hlt.up 53;rw [Nat.one_mul] at hup;have hcr:=ZfI z 53
 have hge2 : z = 1021 ∨ 2 ^ 52 * (2 ^ (-(z + 53)).toNat * 10 ^ (-E).toNat) ≤ D * 2 ^ (z + 53).toNat * 10 ^ E.toNat:=by
  refine hge.imp id fun h => ?_;rw [show z + ((53 : Nat) : Int) = z + 53 from rfl] at hcr;have hp : 0 < 2 ^ (-z).toNat:=Nat.pow_pos (by omega)
  generalize 2 ^ (z + 53).toNat = a at *
  generalize 2 ^ (-z).toNat = b at *
  generalize 2 ^ z.toNat = d at *
  generalize 2 ^ (-(z + 53)).toNat = e at *
  generalize 10 ^ E.toNat = f at *
  generalize 10 ^ (-E).toNat = g at *
  apply Nat.le_of_mul_le_mul_right (c:=b) ?_ hp
  calc 2 ^ 52 * (e * g) * b = 2 ^ 52 * e * (b * g):=by ac_rfl
   _ ≤ 2 ^ 52 * e * (2 * (D * d * f)):=Nat.mul_le_mul_left _ h
   _ = D * f * (2 ^ 53 * d * e):=by rw [show (2 : Nat) ^ 53 = 2 ^ 52 * 2 by decide];ac_rfl
   _ = D * a * f * b:=by rw [← hcr];ac_rfl
 refine ⟨?_,hup,hge2⟩;refine Zdk (1021 - z).toNat ?_ ?_ ?_
 ·rw [show (0 + 1074 - ((1021 - z).toNat : Int)).toNat = (z + 53).toNat by omega,show (((1021 - z).toNat : Int) - (0 + 1074)).toNat = (-(z + 53)).toNat by omega];unfold Less at hup;rw [Nat.mul_one,show (2 : Nat) ^ 53 = 9007199254740992 by decide] at hup
  calc D * 10 ^ E.toNat * 2 ^ (z + 53).toNat = D * 2 ^ (z + 53).toNat * 10 ^ E.toNat:=by ac_rfl
   _ < _:=hup
   _ = _:=by ac_rfl
 ·intro hj;rcases hge2 with h | h
  ·exfalso;omega
  ·rw [show (0 + 1074 - ((1021 - z).toNat : Int)).toNat = (z + 53).toNat by omega,show (((1021 - z).toNat : Int) - (0 + 1074)).toNat = (-(z + 53)).toNat by omega];rw [show (2 : Nat) ^ 52 = 4503599627370496 by decide] at h
   calc 4503599627370496 * (10 ^ (-E).toNat * 2 ^ (-(z + 53)).toNat) = 4503599627370496 * (2 ^ (-(z + 53)).toNat * 10 ^ (-E).toNat):=by ac_rfl
    _ ≤ _:=h
    _ = _:=by ac_rfl
 ·unfold Zft;rw [show (0 + 1074 - ((1021 - z).toNat : Int)).toNat = (z + 53).toNat by omega,show (((1021 - z).toNat : Int) - (0 + 1074)).toNat = (-(z + 53)).toNat by omega,show (-z - 1 + 1022).toNat = (1021 - z).toNat by omega];rw [Nat.mul_right_comm D,Nat.mul_comm (2 ^ (-(z + 53)).toNat)]
theorem top_and (m : Nat) (h1 : 4503599627370496 ≤ m) (h2 : m < 9007199254740992) : Go.bits .and .u64 (m : Int) 4503599627370496 = 4503599627370496:=by
 have t1:=ZdP m 4503599627370496 (by omega) (by omega);rw [Zjc m h2,if_neg (by omega),show ((4503599627370496 : Nat) : Int) = 4503599627370496 from rfl] at t1;exact t1
theorem ZnU (m : Nat) (h1 : m < 4503599627370496) : Go.bits .and .u64 (m : Int) 4503599627370496 = 0:=by
 have t1:=ZdP m 4503599627370496 (by omega) (by omega);rw [Zjc m (by omega),if_pos h1,show ((4503599627370496 : Nat) : Int) = 4503599627370496 from rfl] at t1;exact t1
theorem ZmQ (m : Nat) (h2 : m < 18446744073709551616) : Go.bits .and .u64 (m : Int) 4503599627370495 = ((m % 4503599627370496 : Nat) : Int):=by
 have t1:=ZdP m 4503599627370495 (by omega) (by omega);rw [show (4503599627370495 : Nat) = 2 ^ 52 - 1 by decide,Nat.and_two_pow_sub_one_eq_mod,show (2 : Nat) ^ 52 = 4503599627370496 by decide] at t1;exact t1
theorem Zm9 (J : Nat) (h : J < 2048) : Go.bits .and .i64 (J : Int) 2047 = (J : Int):=by
 have t1:=ZjY J 2047 (by omega) (by omega);rw [show (2047 : Nat) = 2 ^ 11 - 1 by decide,Nat.and_two_pow_sub_one_eq_mod,Nat.mod_eq_of_lt (by omega)] at t1;exact t1
theorem ZmY (f J : Nat) (hf : f < 4503599627370496) (hJ : J < 2048) : Go.bits .or .u64 (f : Int) ((J * 4503599627370496 : Nat) : Int) = ((J * 4503599627370496 + f : Nat) : Int):=by
 have t6:=Ziz f (J * 4503599627370496) (by omega) (by omega)
 have e7 : f ||| J * 4503599627370496 = J * 4503599627370496 + f:=by
  rw [Nat.or_comm,Nat.mul_comm];exact join J f 52 hf
 rw [e7] at t6;exact t6
theorem ZnE (m J : Nat) (e : Int) (h1 : 4503599627370496 ≤ m) (h2 : m < 9007199254740992) (h3 : 1 ≤ J) (h4 : J < 2047) (he : (e + 1022).toNat = J - 1) : J * 4503599627370496 + m % 4503599627370496 = Zft m e:=by
 (have h5 : (J - 1) * 4503599627370496 + m ≤ 9218868437227405312:=by omega);(have h6 : J * 4503599627370496 + m % 4503599627370496 = (J - 1) * 4503599627370496 + m:=by omega);rw [h6,Zft,he];exact (Nat.min_eq_left h5).symm
theorem ZoN (m : Nat) (e : Int) (h1 : m < 4503599627370496) (he : (e + 1022).toNat = 0) : m = Zft m e:=by
 (have h5 : 0 * 4503599627370496 + m ≤ 9218868437227405312:=by omega);rw [Zft,he,Nat.min_eq_left h5,Nat.zero_mul,Nat.zero_add]
theorem ZoM (k : Nat) (e : Int) (hk : k + 2 < 2047) (he : (e + 1022).toNat = k) : (k + 2) * 4503599627370496 = Zft 9007199254740992 e:=by
 (have h5 : k * 4503599627370496 + 9007199254740992 ≤ 9218868437227405312:=by omega);(have h6 : (k + 2) * 4503599627370496 = k * 4503599627370496 + 9007199254740992:=by omega);rw [Zft,he,Nat.min_eq_left h5,h6]
theorem ZnD (k : Nat) (e : Int) (hk : 2045 ≤ k) (he : (e + 1022).toNat = k) : 9218868437227405312 = Zft 9007199254740992 e:=by
 (have h5 : 9218868437227405312 ≤ k * 4503599627370496 + 9007199254740992:=by omega);rw [Zft,he,Nat.min_eq_right h5]
structure Tab9 (w : World) (B : Nat) : Prop where mk ::
 out : ∃ tb tq tc : Nat,tb < B ∧ 10 < B ∧ 9 ≤ tc ∧ w.cell? ⟨10,0,none⟩ = some (.slice (some ⟨tb,tq,none⟩) 9 tc) ∧ ∀ i,i < 9 → w.cell? ⟨tb,tq + i,none⟩ = some (.int .i64 (pw i : Nat))
structure Zea (w : World) (B : Nat) : Prop where mk ::
 blk : 8 < B
 mant : w.cell? ⟨8,0,none⟩ = some (.int .u64 52)
 exp : w.cell? ⟨8,1,none⟩ = some (.int .u64 11)
 bias : w.cell? ⟨8,2,none⟩ = some (.int .i64 (-1023))
theorem Tab9.below {w w' : World} {B : Nat} (h : Tab9 w B) (hb : Below B w w') : Tab9 w' B:=by
 obtain ⟨tb,tq,tc,h1,h2,h3,h4,h5⟩:=h;exact ⟨tb,tq,tc,h1,h2,h3,(hb.cell (p:=⟨_,0,none⟩) h2).trans h4,fun i hi => (hb.cell (p:=⟨tb,_,none⟩) h1).trans (h5 i hi)⟩
theorem Zea.below {w w' : World} {B : Nat} (h : Zea w B) (hb : Below B w w') : Zea w' B :=
 ⟨h.blk,(hb.cell (p:=⟨_,0,none⟩) h.blk).trans h.mant,(hb.cell (p:=⟨_,1,none⟩) h.blk).trans h.exp,(hb.cell (p:=⟨_,2,none⟩) h.blk).trans h.bias⟩
structure OnR (B D : Nat) (E : Int) (w wr : World) (z : Int) : Prop where mk ::
 out : ∃ es g q,On B D E w wr es g q z
structure OnL (B D : Nat) (E : Int) (w wr : World) (z : Int) : Prop where mk ::
 out : ∃ es g q,On B D E w wr es g q z ∧ q ≤ 0
theorem OnAt.low {B D : Nat} {E : Int} {w wr : World} {z : Int} (h : OnAt B D E w wr z) (hl : Less D E z 1 1) : OnL B D E w wr z:=by
 obtain ⟨es,g,q,h1,_⟩:=h.out;exact ⟨es,g,q,h1,Less.le h1 hl⟩
structure OnC (B D : Nat) (E : Int) (w wr : World) (z : Int) : Prop where mk ::
 rel : ∃ es g q,On B D E w wr es g q z
 below : Less D E z 1 1
 lo : -1024 ≤ z
 hi : z ≤ 1021
 half : z = 1021 ∨ 2 ^ (-z).toNat * 10 ^ (-E).toNat ≤ 2 * (D * 2 ^ z.toNat * 10 ^ E.toNat)
theorem Less.down {D : Nat} {E z y : Int} (h : Less D E z 1 1) (hy : y ≤ z) : Less D E y 1 1:=by
 obtain ⟨n,rfl⟩ : ∃ n : Nat,z = y + n:=⟨(z - y).toNat,by omega⟩;have hc:=ZfI y n
 unfold Less at *
 have hp1 : 0 < 2 ^ n:=Nat.pow_pos (by omega);have hp2 : 0 < 2 ^ (-(y + n)).toNat:=Nat.pow_pos (by omega);have hp3 : 0 < 2 ^ (-y).toNat:=Nat.pow_pos (by omega);have hp4 : 1 ≤ 2 ^ n:=hp1
 rw [Nat.one_mul,Nat.mul_one] at *
 generalize 2 ^ (y + n).toNat = a at *
 generalize 2 ^ (-y).toNat = b at *
 generalize 2 ^ n = c at *
 generalize 2 ^ y.toNat = d at *
 generalize 2 ^ (-(y + n)).toNat = e at *
 generalize 10 ^ E.toNat = f at *
 generalize 10 ^ (-E).toNat = g at *
 apply Nat.lt_of_mul_lt_mul_right (a:=c * e)
 calc D * d * f * (c * e) = D * f * (c * d * e):=by ac_rfl
  _ = D * a * f * b:=by rw [← hc];ac_rfl
  _ < e * g * b:=Nat.mul_lt_mul_of_pos_right h hp3
  _ ≤ e * g * b * c:=Nat.le_mul_of_pos_right _ hp1
  _ = b * g * (c * e):=by ac_rfl
theorem On.ZnB {B D : Nat} {E : Int} {w wr : World} {es : List Nat} {g : Nat → Value} {q z : Int} (h : On B D E w wr es g q z) (hn : Num D E) (hz1 : 1021 < z) (hz2 : z < 1100) (k : Int) (hk : k = -(((z - 1021).toNat : Nat) : Int)) :
  Calls Tryz.prog 136 #[.pointer (some ⟨B,0,none⟩),.int .i64 k] wr fun e w' => e = .returned (.tuple #[]) ∧ OnAt B D E w w' 1021:=by
 subst hk;exact h.ZoK hn hz1 hz2
theorem OnAt.rel {B D : Nat} {E : Int} {w wr : World} {z : Int} (h : OnAt B D E w wr z) : OnR B D E w wr z:=by
 obtain ⟨es,g,q,h1,_⟩:=h.out;exact ⟨es,g,q,h1⟩
theorem On.drewN {B D : Nat} {E : Int} {w wr : World} {es : List Nat} {g : Nat → Value} {q z : Int} (h : On B D E w wr es g q z) (n : Nat) : On B D E w (wr.drewN n) es g q z :=
 ⟨h.arr.drewN n,h.dec,h.top,h.val,Zac h.bel n,h.fine⟩
theorem Zo4 (i : Nat) (h : 9 ≤ i) : pw i = 27:=if_pos h
set_option maxHeartbeats 4000000 in
set_option maxRecDepth 100000 in
theorem Zgo (B D : Nat) (E : Int) (f : Nat → Value) (ds : List Nat) (dp : Int) (w : World) (hc : Zc7 w B) (ht : Tab9 w B) (hi : Zea w B) (ha : Arr w B f) (hd : Dec f ds dp false false) (h0 : ds.getD 0 0 ≠ 0) (hl : ds.length ≤ 60) (hn : Num D E) (hv : Val ds dp D 0 E) (hdp1 : -330 ≤ dp) (hdp2 : dp ≤ 310) :
  Calls Tryz.prog 116 #[.pointer (some ⟨B,0,none⟩),.pointer (some ⟨8,0,none⟩)] w fun e w' => ∃ (u : Nat) (ov : Bool),e = .returned (.tuple #[.int .u64 u,.bool ov]) ∧ ZbB (D * 10 ^ E.toNat) (10 ^ (-E).toNat) 0 u ∧ Below B w w':=by
 have HON : Hid (On B D E w w ds f dp 0):=Lib.hid ⟨ha,hd,h0,hv,Below.refl _ _,.inr hl⟩;have hne : ds.length ≠ 0:=fun h => h0 (ZbD _ (Nat.le_of_eq h));have c0 : w.cell? ⟨B,800,none⟩ = some (.int .i64 ds.length):=(ha.cell 800 (by omega)).trans (congrArg some hd.nd);have c801 : w.cell? ⟨B,801,none⟩ = some (.int .i64 dp):=(ha.cell 801 (by omega)).trans (congrArg some hd.dpt);(have c1 : ((ds.length : Int) == 0) = false:=by rw [beq_eq_false_iff_ne];omega);have HC:=Lib.hid hc;have HT:=Lib.hid ht;have HI:=Lib.hid hi;have HN:=Lib.hid hn;clear hc ht hi ha hd h0 hl hn hv hne
 generalize ds.length = nd at *
 have q1 : decide ((310 : Int) < dp) = false:=decide_eq_false (by omega);have q2 : decide (dp < (-330 : Int)) = false:=decide_eq_false (by omega);go_enter Tryz.func116,Tryz.ntmps116;go_wp2;refine ZhX 2 ?_;go_wp2;go_loopw [6] (fun x wr => ∃ z : Int,x = .int .i64 (-z) ∧ Hid (OnR B D E w wr z ∧ z ≤ 0 ∧ Down D E z)) (fun x _ => (1100 - intOf x).toNat)
 case atStart => exact ⟨0,rfl,Lib.hid ⟨⟨_,_,_,HON.out⟩,by omega,.inr (by omega)⟩⟩
 case round =>
  obtain ⟨z,rfl,HR⟩:=hrel;clear HON c801 c0 c1;obtain ⟨es,g,q,hon⟩:=HR.out.1.out;have hz : z ≤ 0:=HR.out.2.1;have hzd : -1028 ≤ z:=HR.out.2.2.z HN.out;have k801 : wr.cell? ⟨B,801,none⟩ = some (.int .i64 q):=(hon.arr.cell 801 (by omega)).trans (congrArg some hon.dec.dpt);by_cases hq : 0 < q
  ·obtain ⟨qn,rfl⟩ : ∃ n : Nat,q = n:=⟨q.toNat,by omega⟩;(have hq2 : qn ≤ 700:=by have:=(hon.near HN.out (by omega) (by omega)).2;omega);have hcall:=fun n => (hon.drewN n).ZnA HN.out hz HR.out.2.2 hq;have hnx : ∀ w',OnAt B D E w w' (z - (pw qn : Nat)) → OnR B D E w w' (z - (pw qn : Nat)) ∧ z - (pw qn : Nat) ≤ 0 ∧ Down D E (z - (pw qn : Nat)):=fun w' h => ⟨h.rel,by omega,hon.down hz hq⟩;have hzd2 : -1028 ≤ z - (pw qn : Nat):=Down.z (hon.down hz hq) HN.out;have p1:=Zmu qn;have p2:=pw_le qn;obtain ⟨tb,tq,tc,t1,t2,t3,t4,t5⟩:=HT.out.below hon.bel;simp only [Int.toNat_natCast] at hcall;by_cases h9 : 9 ≤ qn
   ·rw [Zo4 qn h9,show ((27 : Nat) : Int) = 27 from rfl] at *
    have HCL:=Lib.hid hcall;have HNX:=Lib.hid hnx;have HZ:=Lib.hid hzd2;clear hcall hnx hzd2 t5 HR hon;go_wp2;go_quiet (fail);go_wp2_with (go_at_call 136;((with_reducible refine (HCL.out _).mono ?_);rintro e w' ⟨rfl,HM⟩));go_roundw
    case rel => exact ⟨z - 27,congrArg (Value.int .i64) (by omega),Lib.hid (HNX.out _ HM)⟩
    case measure => have:=HZ.out;simp [intOf];omega
   ·have t6:=t5 qn (by omega);have HCL:=Lib.hid hcall;have HNX:=Lib.hid hnx;have HZ:=Lib.hid hzd2;clear hcall hnx hzd2 t5 HR hon
    generalize pw qn = pn at *
    go_wp2;go_quiet (fail);go_wp2;go_quiet (fail);go_wp2_with (go_at_call 136;((with_reducible refine (HCL.out _).mono ?_);rintro e w' ⟨rfl,HM⟩));go_roundw
    case rel => exact ⟨z - (pn : Int),congrArg (Value.int .i64) (by omega),Lib.hid (HNX.out _ HM)⟩
    case measure => have:=HZ.out;simp [intOf];omega
  ·have HS : Hid (OnL B D E w wr z ∧ Down D E z):=Lib.hid ⟨⟨es,g,q,hon,by omega⟩,HR.out.2.2⟩;clear HR hon;go_wp2;clear k801 hzd hz hq;go_loopw [6] (fun x wr => ∃ z : Int,x = .int .i64 (-z) ∧ Hid (OnL B D E w wr z ∧ Down D E z)) (fun x _ => (1100 + intOf x).toNat)
   case atStart => exact ⟨z,rfl,HS⟩
   case round =>
    clear HS;obtain ⟨z,rfl,HR⟩:=hrel;obtain ⟨es,g,q,hon,hq0⟩:=HR.out.1.out;have hzd : -1028 ≤ z:=HR.out.2.z HN.out;have hzu : z < 1100:=(hon.below hq0).z HN.out;have k801 : wr.cell? ⟨B,801,none⟩ = some (.int .i64 q):=(hon.arr.cell 801 (by omega)).trans (congrArg some hon.dec.dpt)
    have hlen : 0 < es.length:=by
     rcases Nat.eq_zero_or_pos es.length with h | h
     ·exact absurd (ZbD _ (Nat.le_of_eq h)) hon.top
     ·exact h
    have k0 : wr.cell? ⟨B,0,none⟩ = some (.int .u8 ((48 + es.getD 0 0 : Nat) : Int)):=(hon.arr.cell 0 (by omega)).trans (congrArg some (hon.dec.dig 0 hlen));have hdten:=hon.dec.ten 0;by_cases hq : q < 0 ∨ (q = 0 ∧ es.getD 0 0 < 5)
    ·have hup:=hon.up hq;have p1:=Zmu (-q).toNat;have p2:=pw_le (-q).toNat;have hcall:=fun n => (hon.drewN n).Znz HN.out HC.out hzd hzu (pw (-q).toNat) p1 (by omega);have hnx : ∀ w',OnAt B D E w w' (z + (pw (-q).toNat : Nat)) → OnL B D E w w' (z + (pw (-q).toNat : Nat)) ∧ Down D E (z + (pw (-q).toNat : Nat)):=fun w' h => ⟨h.low hup,HR.out.2.up _⟩;have hq2 : -700 ≤ q:=(hon.near HN.out (by omega) (by omega)).1;obtain ⟨tb,tq,tc,t1,t2,t3,t4,t5⟩:=HT.out.below hon.bel;clear hup;by_cases h9 : 9 ≤ (-q).toNat
     ·rw [Zo4 _ h9,show ((27 : Nat) : Int) = 27 from rfl] at *
      have HCL:=Lib.hid hcall;have HNX:=Lib.hid hnx;(have hqa : q < 0:=by omega);(have hqb : (9 : Int) ≤ -q:=by omega);clear hcall hnx t5 HR hon hq h9
      generalize es.getD 0 0 = d at *
      go_wp2;go_quiet (fail);go_wp2_with (go_at_call 136;((with_reducible refine (HCL.out _).mono ?_);rintro e w' ⟨rfl,HM⟩));go_roundw
      case rel => exact ⟨z + 27,congrArg (Value.int .i64) (by omega),Lib.hid (HNX.out _ HM)⟩
      case measure => simp [intOf];omega
     ·have t6:=t5 (-q).toNat (by omega);have HCL:=Lib.hid hcall;have HNX:=Lib.hid hnx;clear hcall hnx t5 HR hon
      generalize pw (-q).toNat = pn at *
      rcases hq with hq | ⟨hq,ht⟩
      ·obtain ⟨qn,rfl⟩ : ∃ n : Nat,q = -(n : Int):=⟨(-q).toNat,by omega⟩;have hnn : - -(qn : Int) = (qn : Int):=Int.neg_neg _;rw [hnn,Int.toNat_natCast] at t6;(have hqb : ¬ (9 : Int) ≤ (qn : Int):=by omega);clear h9
       generalize es.getD 0 0 = d at *
       go_wp2;go_quiet (fail);go_wp2;go_quiet (fail);go_wp2_with (go_at_call 136;((with_reducible refine (HCL.out _).mono ?_);rintro e w' ⟨rfl,HM⟩));go_roundw
       case rel => exact ⟨z + (pn : Int),congrArg (Value.int .i64) (by omega),Lib.hid (HNX.out _ HM)⟩
       case measure => simp [intOf];omega
      ·subst hq;simp only [Int.neg_zero,Int.toNat_zero,Nat.add_zero] at t6;have hd5 : decide (((48 + es.getD 0 0 : Nat) : Int) < 53) = true:=decide_eq_true (by omega);clear h9
       generalize es.getD 0 0 = d at *
       go_wp2;go_quiet (fail);go_wp2;go_quiet (fail);go_wp2_with (go_at_call 136;((with_reducible refine (HCL.out _).mono ?_);rintro e w' ⟨rfl,HM⟩));go_roundw
       case rel => exact ⟨z + (pn : Int),congrArg (Value.int .i64) (by omega),Lib.hid (HNX.out _ HM)⟩
       case measure => simp [intOf];omega
    ·(obtain rfl : q = 0:=by omega);have hd5 : decide (48 + es.getD 0 0 < 53) = false:=decide_eq_false (by omega);(have hd6 : 5 ≤ es.getD 0 0:=by omega);have HE : Hid (On B D E w wr es g 0 z):=Lib.hid hon;obtain ⟨_,i52,i11,ibias⟩:=HI.out.below hon.bel;have hhalf:=hon.half rfl (by omega);have hzh:=half_z HN.out hhalf;have HH:=Lib.hid hhalf;have HL:=Lib.hid (hon.below hq0);have hdc:=fun h => hon.ZnB HN.out h hzu (-(-1022 - (-z - 1))) (by omega);have HDC:=Lib.hid hdc;clear hdc hhalf hon HR hq
     generalize hdd : es.getD 0 0 = d at *
     clear hdd;go_upto_if 111 with fail;go_cut [6] (fun x wc => ∃ z : Int,x = .int .i64 (-z - 1) ∧ Hid (OnC B D E w wc z))
     case first =>
      by_cases hden : 1021 < z
      ·(have h1 : -z - 1 < -1022:=by omega);go_wp2_with (go_at_call 136;((with_reducible refine (HDC.out hden).mono ?_);rintro e w' ⟨rfl,HM⟩));go_meet
       case rel => exact ⟨1021,congrArg (Value.int .i64) (by omega),Lib.hid ⟨HM.rel.out,HL.out.down (by omega),by omega,by omega,.inl rfl⟩⟩
      ·(have h1 : ¬ -z - 1 < -1022:=by omega);go_wp2;go_meet
       case rel => exact ⟨z,rfl,Lib.hid ⟨⟨_,_,_,HE.out⟩,HL.out,hzh,by omega,.inr HH.out⟩⟩
     case rest =>
      obtain ⟨z,rfl,HO⟩:=hcut;clear HE HH HL HDC hd5 hd6 k801 k0 hzu hzd hlen hdten hzh i52 i11 ibias;obtain ⟨⟨es,g,q,hon⟩,o1,o2,o3,o4⟩:=HO.out;obtain ⟨_,i52,i11,ibias⟩:=HI.out.below hon.bel;obtain ⟨hb,hup,hge⟩:=Zlg o1 o3 o4;have hcall:=fun n => (hon.drewN n).Znz HN.out HC.out (by omega) (by omega) 53 (by omega) (by omega);rw [show ((53 : Nat) : Int) = 53 from rfl] at hcall
      have hnx : ∀ w',OnAt B D E w w' (z + 53) → Calls Tryz.prog 137 #[.pointer (some ⟨B,0,none⟩)] w' (fun e w2 => e = .returned (.int .u64 ((rneQ (D * 2 ^ (z + 53).toNat * 10 ^ E.toNat) (2 ^ (-(z + 53)).toNat * 10 ^ (-E).toNat) : Nat) : Int)) ∧ w' = w2) ∧ w'.cell? ⟨8,0,none⟩ = some (.int .u64 52) ∧ w'.cell? ⟨8,1,none⟩ = some (.int .u64 11) ∧ w'.cell? ⟨8,2,none⟩ = some (.int .i64 (-1023)) ∧ w'.cell? ⟨B,802,none⟩ = some (.bool false) ∧ Hid (Below B w w'):=by
       intro w' hw';obtain ⟨es',g',q',hon',_⟩:=hw'.out;obtain ⟨_,j52,j11,jbias⟩:=HI.out.below hon'.bel;exact ⟨On.calls hw' hup,j52,j11,jbias,(hon'.arr.cell 802 (by omega)).trans (congrArg some hon'.dec.ngt),Lib.hid hon'.bel⟩
      have hQ : 0 < 2 ^ (-(z + 53)).toNat * 10 ^ (-E).toNat:=Nat.mul_pos (Nat.pow_pos (by omega)) (Nat.pow_pos (by omega))
      have hm1 : rneQ (D * 2 ^ (z + 53).toNat * 10 ^ E.toNat) (2 ^ (-(z + 53)).toNat * 10 ^ (-E).toNat) ≤ 9007199254740992:=Zmk hQ (by
       unfold Less at hup;rw [Nat.mul_one] at hup;exact Nat.le_of_lt hup)
      have hm2 : z = 1021 ∨ 4503599627370496 ≤ rneQ (D * 2 ^ (z + 53).toNat * 10 ^ E.toNat) (2 ^ (-(z + 53)).toNat * 10 ^ (-E).toNat):=hge.imp id fun h => Zjo hQ h
      generalize rneQ (D * 2 ^ (z + 53).toNat * 10 ^ E.toNat) (2 ^ (-(z + 53)).toNat * 10 ^ (-E).toNat) = m at *
      have HB:=Lib.hid hb;have HNX:=Lib.hid hnx;have HCL:=Lib.hid hcall;clear hb hnx hcall hup hge hQ o1 o4 HO hon;(have e1 : ¬ (2047 : Int) ≤ -z - 1 - -1023:=by omega);go_wp2;go_quiet (fail);go_upto_region 33 with (first | (go_at_call 136;((with_reducible refine (HCL.out _).mono ?_);rintro e w' ⟨rfl,HM⟩;obtain ⟨hrd,j52,j11,jbias,jneg,HBW⟩:=HNX.out _ HM)) | (go_at_call 137;((with_reducible refine hrd.mono ?_);rintro e w2 ⟨rfl,rfl⟩)));clear HNX HCL hrd HM i52 i11 ibias;by_cases hm3 : m = 9007199254740992
      ·subst hm3;rw [show ((9007199254740992 : Nat) : Int) = 9007199254740992 from rfl];(have u1 : Go.bits .and .u64 4503599627370496 4503599627370496 = 4503599627370496:=by decide);(have u2 : Go.bits .and .u64 4503599627370496 4503599627370495 = 0:=by decide);by_cases hz : z = -1024
       ·subst hz;(have u3 : Go.bits .and .u64 0 4503599627370495 = 0:=by decide);(have u4 : Go.bits .and .i64 2047 2047 = 2047:=by decide);(have u5 : Go.bits .or .u64 0 9218868437227405312 = 9218868437227405312:=by decide);have hend:=ZnD 2045 (- -1024 - 1) (by omega) (by decide);rw [← hend] at HB;clear hend hm2 hm1;go_wp2;go_quiet (fail);go_wp2;go_step3;refine ZfA _ rfl ?_;go_wp2;go_quiet (fail);go_wp2;go_step3;go_wp2;go_quiet (fail);go_wp2;rw [ZhI];refine bodyPost_ret (v:=.tuple #[.int .u64 ((9218868437227405312 : Nat) : Int),.bool true]) (by simp [results,Tryz.results116,go_sem]) rfl ⟨9218868437227405312,true,rfl,HB.out,?_⟩;exact Zac HBW.out _
       ·obtain ⟨J,hJ⟩ : ∃ J : Nat,-z + 1023 = (J : Int):=⟨(-z + 1023).toNat,by omega⟩;(have hJ2 : J < 2047:=by omega);(have hz2 : ¬ (2047 : Int) ≤ -z + 1023:=by omega);have t3:=Zm9 J (by omega);(have t4 : IntKind.u64.wrap (J : Int) = (J : Int):=by rw [wu64];omega);(have t5 : IntKind.u64.wrap ((J : Int) * 4503599627370496) = ((J * 4503599627370496 : Nat) : Int):=by rw [wu64];omega);have t6:=ZmY 0 J (by omega) (by omega);rw [Nat.add_zero,show ((0 : Nat) : Int) = 0 from rfl] at t6;have hend:=ZoM (J - 2) (-z - 1) (by omega) (by omega);rw [show J - 2 + 2 = J by omega] at hend;rw [hend] at t6 t5;(have hs : -z - 1 + 1 = -z:=by omega);clear hend hm2 hm1
        generalize Zft 9007199254740992 (-z - 1) = u at *
        go_wp2;go_quiet (fail);go_wp2;go_step3;refine ZfA _ rfl ?_;go_wp2;go_quiet (fail);go_wp2;rw [ZhI];refine bodyPost_ret (v:=.tuple #[.int .u64 u,.bool false]) (by simp [results,Tryz.results116,go_sem]) rfl ⟨u,false,rfl,HB.out,?_⟩;exact Zac HBW.out _
      ·(have k1 : ((m : Int) == 9007199254740992) = false:=by rw [beq_eq_false_iff_ne];omega);by_cases hm4 : 4503599627370496 ≤ m
       ·obtain ⟨J,hJ⟩ : ∃ J : Nat,-z - 1 + 1023 = (J : Int):=⟨(-z - 1 + 1023).toNat,by omega⟩;(have hJ2 : J < 2047:=by omega);have t1:=top_and m hm4 (by omega);have t2:=ZmQ m (by omega);have t3:=Zm9 J (by omega);(have t4 : IntKind.u64.wrap (J : Int) = (J : Int):=by rw [wu64];omega);(have t5 : IntKind.u64.wrap ((J : Int) * 4503599627370496) = ((J * 4503599627370496 : Nat) : Int):=by rw [wu64];omega);have t6:=ZmY (m % 4503599627370496) J (by omega) (by omega);have hend:=ZnE m J (-z - 1) hm4 (by omega) (by omega) hJ2 (by omega);rw [hend] at t6;have HB2:=HB;clear hend
        generalize Zft m (-z - 1) = u at *
        generalize m % 4503599627370496 = mf at *
        generalize ((J * 4503599627370496 : Nat) : Int) = y at *
        clear hm4 hm3;go_wp2;go_step3;refine ZfA _ rfl ?_;go_wp2;go_quiet (fail);go_wp2;rw [ZhI];refine bodyPost_ret (v:=.tuple #[.int .u64 u,.bool false]) (by simp [results,Tryz.results116,go_sem]) rfl ⟨u,false,rfl,HB.out,?_⟩;exact Zac HBW.out _
       ·obtain rfl : z = 1021:=hm2.resolve_right hm4;have t1:=ZnU m (by omega);have t2:=ZmQ m (by omega);rw [Nat.mod_eq_of_lt (by omega)] at t2;(have t3 : Go.bits .and .i64 0 2047 = 0:=by decide);(have t4 : IntKind.u64.wrap 0 = 0:=by decide);have t6:=Ziz m 0 (by omega) (by omega);rw [Nat.or_zero,show ((0 : Nat) : Int) = 0 from rfl] at t6;have hend:=ZoN m (-1021 - 1) (by omega) (by decide);rw [← hend] at HB;clear hend hm4 hm3 hm1;go_wp2;go_step3;refine ZfA _ rfl ?_;go_wp2;go_quiet (fail);go_wp2;rw [ZhI];refine bodyPost_ret (v:=.tuple #[.int .u64 m,.bool false]) (by simp [results,Tryz.results116,go_sem]) rfl ⟨m,false,rfl,HB.out,?_⟩;exact Zac HBW.out _
end Go.Proofs.YtfoekmfpcahmiabGreatDoor.SF
namespace Go.Proofs.YtfoekmfpcahmiabGreatDoor.PN
open CQ US
theorem Zke (q s : Nat) (hs : s ≤ 1) : q ||| s = 2 * (q / 2) + (if q % 2 = 1 ∨ s = 1 then 1 else 0):=by
 (have e : q = 2 ^ 1 * (q / 2) + q % 2:=by have:=Nat.div_add_mod q 2;omega);have h2 : q % 2 < 2:=Nat.mod_lt _ (by omega)
 generalize q % 2 = b at *
 generalize q / 2 = a at *
 subst e;(have hb : b = 0 ∨ b = 1:=by omega);(have hs2 : s = 0 ∨ s = 1:=by omega);rcases hb with rfl | rfl <;> rcases hs2 with rfl | rfl
 ·simp
 ·rw [Nat.add_zero,← Nat.two_pow_add_eq_or_of_lt (i:=1) (b:=1) (by omega)];simp
 ·simp
 ·rw [Nat.two_pow_add_eq_or_of_lt (i:=1) (b:=1) (by omega),Nat.or_assoc,Nat.or_self,← Nat.two_pow_add_eq_or_of_lt (i:=1) (b:=1) (by omega)];simp
theorem ZnR {A B C D : Nat} (hB : 0 < B) (hD : 0 < D) (h : A * D = C * B) : unr A B = unr C D:=by
 have h1 : A / B = C / D:=by
  rw [← Nat.mul_div_mul_right A B hD,← Nat.mul_div_mul_right C D hB,h,Nat.mul_comm B D]
 have h2 : A % B = 0 ↔ C % D = 0:=by
  have e1 : A * D % (B * D) = A % B * D:=Nat.mul_mod_mul_right _ _ _;have e2 : C * B % (D * B) = C % D * B:=Nat.mul_mod_mul_right _ _ _;rw [h,Nat.mul_comm B D,e2] at e1;constructor
  ·intro h0;rw [h0,Nat.zero_mul] at e1;rcases Nat.mul_eq_zero.1 e1 with h | h <;> omega
  ·intro h0;rw [h0,Nat.zero_mul] at e1;rcases Nat.mul_eq_zero.1 e1.symm with h | h <;> omega
 unfold unr;rw [h1];by_cases h0 : A % B = 0
 ·rw [if_pos h0,if_pos (h2.1 h0)]
 ·rw [if_neg h0,if_neg (fun h => h0 (h2.2 h))]
theorem unr_ge (A B : Nat) : A / B ≤ unr A B:=Nat.left_le_or
theorem ZnS (A B : Nat) (hB : 0 < B) : unr A B / 2 ||| unr A B % 2 = unr A (B * 2):=by
 have hd : A / (B * 2) = A / B / 2:=(Nat.div_div_eq_div_mul A B 2).symm
 have hm : A % (B * 2) = 0 ↔ A / B % 2 = 0 ∧ A % B = 0:=by
  rw [Nat.mod_mul];constructor
  ·intro h;(have h1 : A % B = 0:=by omega);(have h2 : B * (A / B % 2) = 0:=by omega);rcases Nat.mul_eq_zero.1 h2 with h | h
   ·omega
   ·exact ⟨h,h1⟩
  ·rintro ⟨h1,h2⟩;rw [h1,h2,Nat.mul_zero]
 unfold unr;rw [hd]
 generalize A / B = q at *
 by_cases h0 : A % B = 0
 ·rw [if_pos h0,Nat.or_zero];(have h2 : q % 2 = 0 ∨ q % 2 = 1:=by omega);rcases h2 with h2 | h2
  ·rw [h2,if_pos (hm.2 ⟨h2,h0⟩)]
  ·rw [h2,if_neg (fun h => by have:=(hm.1 h).1;omega)]
 ·rw [if_neg h0,if_neg (fun h => h0 (hm.1 h).2),Zke q 1 (by omega),if_pos (.inr rfl)];rw [show (2 * (q / 2) + 1) / 2 = q / 2 by omega,show (2 * (q / 2) + 1) % 2 = 1 by omega]
theorem ZlJ (N M : Nat) (hM : 0 < M) : (unr (4 * N) M + 1 + unr (4 * N) M / 4 % 2) / 4 = rneQ N M:=by
 have h1:=Nat.div_add_mod N M;have h2:=Nat.mod_lt N hM
 generalize hn : N / M = n at *
 generalize hr : N % M = r at *
 obtain ⟨t,ht1,ht2⟩ : ∃ t,t * M ≤ 4 * r ∧ 4 * r < (t + 1) * M:=⟨4 * r / M,Nat.div_mul_le_self _ _,by
  rw [Nat.mul_comm (4 * r / M + 1) M];exact Nat.lt_mul_div_succ (4 * r) hM⟩
 have ht : t < 4:=by
  apply Nat.lt_of_mul_lt_mul_right (a:=M);omega
 have hq : 4 * N / M = 4 * n + t:=by
  apply Nat.div_eq_of_lt_le
  ·rw [Nat.add_mul,← h1];(have : 4 * n * M = 4 * (M * n):=by ac_rfl);omega
  ·rw [← h1,Nat.add_assoc,Nat.add_mul];(have : 4 * n * M = 4 * (M * n):=by ac_rfl);omega
 have hmod : 4 * N % M = 0 ↔ 4 * r = t * M:=by
  have h3:=Nat.div_add_mod (4 * N) M;rw [hq,← h1] at h3;(have e : M * (4 * n + t) = 4 * (M * n) + t * M:=by rw [Nat.mul_add,Nat.mul_comm M t];congr 1;ac_rfl);rw [h1] at h3;omega
 have hu : unr (4 * N) M = 4 * n + (if 4 * r = t * M then t else 2 * (t / 2) + 1):=by
  unfold unr;rw [hq];by_cases h0 : 4 * r = t * M
  ·rw [if_pos (hmod.2 h0),if_pos h0,Nat.or_zero]
  ·rw [if_neg (fun h => h0 (hmod.1 h)),if_neg h0,Zke _ 1 (by omega),if_pos (.inr rfl)];omega
 have hrne : rneQ N M = n + if M < 2 * r ∨ (M = 2 * r ∧ n % 2 = 1) then 1 else 0:=by unfold rneQ;rw [hn,hr]
 rw [hu,hrne];clear hu hrne hmod hq hn hr h1;(have ht' : t = 0 ∨ t = 1 ∨ t = 2 ∨ t = 3:=by omega);(have hn2 : n % 2 = 0 ∨ n % 2 = 1:=by omega);rcases ht' with rfl | rfl | rfl | rfl <;> split <;> split <;> omega
open SF
def Zo2 (p : Int) : Bool:=Nat.ble (2 ^ 127 * V p) (U p) && Nat.ble (U p * 2 ^ 20) ((2 ^ 20 - 1) * (2 ^ 128 * V p))
theorem Zmq : (List.range 696).all (fun i => Zo2 ((i : Int) - 348)) = true:=by decide +kernel
theorem Zob (p : Int) (h1 : -348 ≤ p) (h2 : p ≤ 347) : 2 ^ 127 * V p ≤ U p ∧ U p * 2 ^ 20 ≤ (2 ^ 20 - 1) * (2 ^ 128 * V p):=by
 have h:=List.all_eq_true.1 Zmq (p + 348).toNat (List.mem_range.2 (by omega));rw [show (((p + 348).toNat : Nat) : Int) - 348 = p by omega] at h;unfold Zo2 at h;simp only [Bool.and_eq_true,Nat.ble_eq] at h;exact h
theorem Zh8 (p : Int) (h1 : -348 ≤ p) (h2 : p ≤ 347) : 2 ^ (lp p).toNat * 10 ^ (-p).toNat ≤ 10 ^ p.toNat * 2 ^ (-lp p).toNat ∧ 10 ^ p.toNat * 2 ^ (-lp p).toNat * 2 ^ 20 ≤ (2 ^ 20 - 1) * (2 * (2 ^ (lp p).toNat * 10 ^ (-p).toNat)):=by
 obtain ⟨a,b⟩:=Zob p h1 h2;unfold U V at a b
 generalize lp p = l at *
 have hp : ∀ n,0 < 2 ^ n:=fun n => Nat.pow_pos (by omega)
 have e1 : 2 ^ 127 * 2 ^ (l - 127).toNat * 2 ^ (-l).toNat = 2 ^ l.toNat * 2 ^ (127 - l).toNat:=by
  rw [← Nat.pow_add,← Nat.pow_add,← Nat.pow_add];congr 1;omega
 have e2 : 2 ^ 128 * 2 ^ (l - 127).toNat * 2 ^ (-l).toNat = 2 * (2 ^ l.toNat * 2 ^ (127 - l).toNat):=by
  rw [show (2 : Nat) ^ 128 = 2 * 2 ^ 127 by decide,Nat.mul_assoc,Nat.mul_assoc,← Nat.mul_assoc (2 ^ 127),e1]
 have hy : 0 < 2 ^ (127 - l).toNat:=hp _
 generalize 2 ^ (l - 127).toNat = x at *
 generalize 2 ^ (127 - l).toNat = y at *
 constructor
 ·apply Nat.le_of_mul_le_mul_right (c:=y) ?_ hy
  calc 2 ^ l.toNat * 10 ^ (-p).toNat * y = 2 ^ l.toNat * y * 10 ^ (-p).toNat:=by ac_rfl
   _ = 2 ^ 127 * (x * 10 ^ (-p).toNat) * 2 ^ (-l).toNat:=by rw [← e1];ac_rfl
   _ ≤ 10 ^ p.toNat * y * 2 ^ (-l).toNat:=Nat.mul_le_mul_right _ a
   _ = _:=by ac_rfl
 ·generalize (2 : Nat) ^ 20 = t at *
  generalize t - 1 = t' at *
  apply Nat.le_of_mul_le_mul_right (c:=y) ?_ hy
  calc 10 ^ p.toNat * 2 ^ (-l).toNat * t * y = 10 ^ p.toNat * y * t * 2 ^ (-l).toNat:=by ac_rfl
   _ ≤ t' * (2 ^ 128 * (x * 10 ^ (-p).toNat)) * 2 ^ (-l).toNat:=Nat.mul_le_mul_right _ b
   _ = t' * (2 ^ 128 * x * 2 ^ (-l).toNat) * 10 ^ (-p).toNat:=by ac_rfl
   _ = _:=by rw [e2];ac_rfl
theorem scaled (d b s : Nat) (p e : Int) (hb : b ≤ 64) (hs : (s : Int) = 61 - e - b - lp p) :
  (d * 2 ^ (64 - b) * U p) * (10 ^ (-p).toNat * 2 ^ (-e).toNat) = 4 * (d * 10 ^ p.toNat * 2 ^ e.toNat) * (2 ^ s * 340282366920938463463374607431768211456 * V p):=by
 unfold U V;rw [show (340282366920938463463374607431768211456 : Nat) = 2 ^ 128 by decide,show (4 : Nat) = 2 ^ 2 by decide]
 have e1 : 2 ^ (64 - b) * 2 ^ (127 - lp p).toNat * 2 ^ (-e).toNat = 2 ^ 2 * 2 ^ e.toNat * 2 ^ s * 2 ^ 128 * 2 ^ (lp p - 127).toNat:=by
  rw [← Nat.pow_add,← Nat.pow_add,← Nat.pow_add,← Nat.pow_add,← Nat.pow_add,← Nat.pow_add]
  congr 1
  omega
 generalize lp p = l at *
 generalize (2 : Nat) ^ 128 = c at *
 generalize 2 ^ (64 - b) = x1 at *
 generalize 2 ^ (127 - l).toNat = x2 at *
 generalize 2 ^ (-e).toNat = x3 at *
 generalize 2 ^ e.toNat = x4 at *
 generalize 2 ^ s = x5 at *
 generalize 2 ^ (l - 127).toNat = x6 at *
 generalize (2 : Nat) ^ 2 = x7 at *
 calc d * x1 * (10 ^ p.toNat * x2) * (10 ^ (-p).toNat * x3) = d * 10 ^ p.toNat * 10 ^ (-p).toNat * (x1 * x2 * x3):=by ac_rfl
  _ = d * 10 ^ p.toNat * 10 ^ (-p).toNat * (x7 * x4 * x5 * c * x6):=by rw [e1]
  _ = _:=by ac_rfl
theorem Zik (d b : Nat) (p e : Int) (h1 : -348 ≤ p) (h2 : p ≤ 347) (hd : d < 2 ^ b) (k : Nat) (hk : (b : Int) + lp p + 1 + e ≤ k) :
  d * 10 ^ p.toNat * 2 ^ e.toNat * 1048576 < 1048575 * 2 ^ k * (10 ^ (-p).toNat * 2 ^ (-e).toNat):=by
 have hr:=(Zh8 p h1 h2).2;rw [show (2 : Nat) ^ 20 - 1 = 1048575 by decide,show (2 : Nat) ^ 20 = 1048576 by decide] at hr
 generalize lp p = l at *
 have hp : ∀ n,0 < 2 ^ n:=fun n => Nat.pow_pos (by omega);apply Nat.lt_of_mul_lt_mul_right (a:=2 ^ (-l).toNat)
 have e1 : 2 ^ b * 2 * 2 ^ l.toNat * 2 ^ e.toNat ≤ 2 ^ k * 2 ^ (-e).toNat * 2 ^ (-l).toNat:=by
  rw [← Nat.pow_succ,← Nat.pow_add,← Nat.pow_add,← Nat.pow_add,← Nat.pow_add];exact Nat.pow_le_pow_right (by omega) (by omega)
 have hA : 0 < 10 ^ p.toNat:=Nat.pow_pos (by omega);have hB : 0 < 10 ^ (-p).toNat:=Nat.pow_pos (by omega)
 generalize 10 ^ p.toNat = A at *
 generalize 10 ^ (-p).toNat = B at *
 have hX : 0 < A * 2 ^ (-l).toNat * 2 ^ e.toNat * 1048576:=Nat.mul_pos (Nat.mul_pos (Nat.mul_pos hA (hp _)) (hp _)) (by omega)
 calc d * A * 2 ^ e.toNat * 1048576 * 2 ^ (-l).toNat = d * (A * 2 ^ (-l).toNat * 2 ^ e.toNat * 1048576):=by ac_rfl
  _ < 2 ^ b * (A * 2 ^ (-l).toNat * 2 ^ e.toNat * 1048576):=Nat.mul_lt_mul_of_pos_right hd hX
  _ = 2 ^ b * (A * 2 ^ (-l).toNat * 1048576) * 2 ^ e.toNat:=by ac_rfl
  _ ≤ 2 ^ b * (1048575 * (2 * (2 ^ l.toNat * B))) * 2 ^ e.toNat:=Nat.mul_le_mul_right _ (Nat.mul_le_mul_left _ hr)
  _ = 1048575 * B * (2 ^ b * 2 * 2 ^ l.toNat * 2 ^ e.toNat):=by ac_rfl
  _ ≤ 1048575 * B * (2 ^ k * 2 ^ (-e).toNat * 2 ^ (-l).toNat):=Nat.mul_le_mul_left _ e1
  _ = _:=by ac_rfl
theorem Zl9 (d b : Nat) (p e : Int) (h1 : -348 ≤ p) (h2 : p ≤ 347) (hb : 1 ≤ b) (hd : 2 ^ (b - 1) ≤ d) (k : Nat) (hk : (k : Int) ≤ b - 1 + lp p + e) :
  2 ^ k * (10 ^ (-p).toNat * 2 ^ (-e).toNat) ≤ d * 10 ^ p.toNat * 2 ^ e.toNat:=by
 have hr:=(Zh8 p h1 h2).1
 generalize lp p = l at *
 have hp : ∀ n,0 < 2 ^ n:=fun n => Nat.pow_pos (by omega);apply Nat.le_of_mul_le_mul_right (c:=2 ^ (-l).toNat) ?_ (hp _)
 have e1 : 2 ^ k * 2 ^ (-e).toNat * 2 ^ (-l).toNat ≤ 2 ^ (b - 1) * 2 ^ l.toNat * 2 ^ e.toNat:=by
  rw [← Nat.pow_add,← Nat.pow_add,← Nat.pow_add,← Nat.pow_add];exact Nat.pow_le_pow_right (by omega) (by omega)
 generalize 10 ^ p.toNat = A at *
 generalize 10 ^ (-p).toNat = B at *
 calc 2 ^ k * (B * 2 ^ (-e).toNat) * 2 ^ (-l).toNat = B * (2 ^ k * 2 ^ (-e).toNat * 2 ^ (-l).toNat):=by ac_rfl
  _ ≤ B * (2 ^ (b - 1) * 2 ^ l.toNat * 2 ^ e.toNat):=Nat.mul_le_mul_left _ e1
  _ = 2 ^ (b - 1) * (2 ^ l.toNat * B) * 2 ^ e.toNat:=by ac_rfl
  _ ≤ d * (A * 2 ^ (-l).toNat) * 2 ^ e.toNat:=Nat.mul_le_mul_right _ (Nat.mul_le_mul hd hr)
  _ = _:=by ac_rfl
theorem inf_le (j m : Nat) (hm : 4503599627370496 ≤ m) (hj : 2046 ≤ j) : 9218868437227405312 ≤ j * 4503599627370496 + m:=by omega
theorem Ze9 (m : Nat) (e : Int) (j : Nat) (h1 : 4503599627370496 ≤ m) (h2 : m < 9007199254740992) (hj : (e + 1074).toNat = j) (he : -1074 ≤ e) : ZgE m e = min (j * 4503599627370496 + m) 9218868437227405312:=by
 unfold ZgE;rw [if_neg (by omega)];by_cases h : 972 ≤ e
 ·rw [if_pos h,Nat.min_eq_right (inf_le j m h1 (by omega))]
 ·(have h5 : j * 4503599627370496 + m ≤ 9218868437227405312:=by omega);rw [if_neg h,hj,Nat.min_eq_left h5]
theorem Zmx (m : Nat) (e : Int) (h1 : m < 4503599627370496) : ZgE m e = min (0 * 4503599627370496 + m) 9218868437227405312:=by
 unfold ZgE;(have h5 : 0 * 4503599627370496 + m ≤ 9218868437227405312:=by omega);rw [if_pos h1,Nat.min_eq_left h5,Nat.zero_mul,Nat.zero_add]
theorem unr_two (A B : Nat) : unr A B = A / B ∨ (unr A B = A / B + 1 ∧ A / B % 2 = 0):=by
 unfold unr;generalize A / B = q;by_cases h : A % B = 0
 ·left;rw [if_pos h,Nat.or_zero]
 ·rw [if_neg h,Zke q 1 (by omega),if_pos (.inr rfl)];omega
theorem or_own (u : Nat) : u ||| u % 2 = u:=by
 rw [Zke u (u % 2) (by omega)];split <;> omega
theorem Zmj {A B k : Nat} (hB : 0 < B) (h : 2 * A < (2 * k - 1) * B) (hk : 1 ≤ k) : rneQ A B < k:=by
 have h1:=Nat.div_add_mod A B;have h2:=Nat.mod_lt A hB
 have h3 : A / B < k:=by
  apply Nat.lt_of_mul_lt_mul_right (a:=B);have : A / B * B ≤ A:=Nat.div_mul_le_self _ _
  have e : (2 * k - 1) * B + B = 2 * (k * B):=by
   rw [← Nat.succ_mul,Nat.succ_eq_add_one,show 2 * k - 1 + 1 = 2 * k by omega];ac_rfl
  omega
 unfold rneQ;split
 ·rename_i hc
  rcases Nat.lt_or_ge (A / B + 1) k with h4 | h4
  ·exact h4
  ·exfalso;(have h5 : A / B = k - 1:=by omega);rw [h5] at h1
   have e : (2 * k - 1) * B = 2 * (B * (k - 1)) + B:=by
    rw [show 2 * k - 1 = 2 * (k - 1) + 1 by omega,Nat.add_mul,Nat.one_mul];congr 1;ac_rfl
   omega
 ·omega
theorem Zml {A B k : Nat} (hB : 0 < B) (h1 : (2 * k - 1) * B ≤ 2 * A) (h2 : A ≤ k * B) (hk : k % 2 = 0) (hk0 : 1 ≤ k) : rneQ A B = k:=by
 have h3:=Nat.div_add_mod A B;have h4:=Nat.mod_lt A hB;rcases Nat.lt_or_ge A (k * B) with h5 | h5
 ·have h6 : A / B = k - 1:=by
   have h7 : A / B < k:=by
    apply Nat.lt_of_mul_lt_mul_right (a:=B);have : A / B * B ≤ A:=Nat.div_mul_le_self _ _;omega
   have h8 : k - 1 ≤ A / B:=by
    rw [Nat.le_div_iff_mul_le hB]
    have e : (2 * k - 1) * B = 2 * ((k - 1) * B) + B:=by
     rw [show 2 * k - 1 = 2 * (k - 1) + 1 by omega,Nat.add_mul,Nat.one_mul];congr 1;ac_rfl
    omega
   omega
  rw [h6] at h3
  have e : (2 * k - 1) * B = 2 * (B * (k - 1)) + B:=by
   rw [show 2 * k - 1 = 2 * (k - 1) + 1 by omega,Nat.add_mul,Nat.one_mul];congr 1;ac_rfl
  unfold rneQ;rw [h6];by_cases h9 : B < 2 * (A % B) ∨ (B = 2 * (A % B) ∧ (k - 1) % 2 = 1)
  ·rw [if_pos h9];omega
  ·exfalso;apply h9;omega
 ·(have h6 : A = k * B:=by omega);unfold rneQ;rw [h6,Nat.mul_div_cancel _ hB,Nat.mul_mod_left,if_neg (by omega)];omega
theorem Zm7 (A B : Nat) (e : Int) (he : e ≤ 1074) (hB : 0 < B) (N M u : Nat) (hN : N = A * 2 ^ e.toNat) (hM : M = B * 2 ^ (-e).toNat) (h54 : N < 18014381329612800 * M) (h52 : e < 1074 → 4503599627370496 * M ≤ N) (hu : u = unr (4 * N) M)
  (sb : Bool) (hsb : decide (36028797018963966 ≤ u) = sb) (v m : Nat) (hv : u / 2 ^ sb.toNat ||| u % 2 = v) (hm : (v + 1 + v / 4 % 2) / 4 = m) :
  u < 9223372036854775808 ∧ m < 9007199254740992 ∧ ZbB A B 0 (ZgE m (-(e - (sb.toNat : Int)))):=by
 (have hMp : 0 < M:=by rw [hM];exact Nat.mul_pos hB (Nat.pow_pos (by omega)));have hq:=Nat.div_add_mod (4 * N) M;have hql:=Nat.mod_lt (4 * N) hMp;have hu2:=unr_two (4 * N) M;rw [← hu] at hu2
 have hq54 : 4 * N / M < 72057594037927936:=by
  rw [Nat.div_lt_iff_lt_mul hMp];omega
 (have hul : u < 9223372036854775808:=by omega);refine ⟨hul,?_⟩
 cases sb with
 | false =>
  (have hu3 : u < 36028797018963966:=by have:=of_decide_eq_false hsb;omega);rw [Bool.toNat_false,Nat.pow_zero,Nat.div_one,or_own] at hv;subst hv;rw [hu,ZlJ N M hMp] at hm
  have hlt : 2 * N < (2 * 9007199254740992 - 1) * M:=by
   (have h1 : 4 * N / M ≤ u:=by rw [hu];exact unr_ge _ _);(have h2 : 4 * N / M + 1 ≤ 36028797018963966:=by omega);(have h3 : 4 * N < (4 * N / M + 1) * M:=by rw [Nat.mul_comm (4 * N / M + 1) M];exact Nat.lt_mul_div_succ _ hMp);have h4 : (4 * N / M + 1) * M ≤ 36028797018963966 * M:=Nat.mul_le_mul_right _ h2;omega
  (have hml : m < 9007199254740992:=by rw [← hm];exact Zmj hMp hlt (by omega));refine ⟨hml,?_⟩;(have hN53 : N < 9007199254740992 * M:=by omega);refine Zdk (1074 - e).toNat ?_ ?_ ?_
  ·rw [show (0 + 1074 - ((1074 - e).toNat : Int)).toNat = e.toNat by omega,show (((1074 - e).toNat : Int) - (0 + 1074)).toNat = (-e).toNat by omega,← hN,← hM];exact hN53
  ·rw [show (0 + 1074 - ((1074 - e).toNat : Int)).toNat = e.toNat by omega,show (((1074 - e).toNat : Int) - (0 + 1074)).toNat = (-e).toNat by omega,← hN,← hM];intro hj;exact h52 (by omega)
  ·rw [show (0 + 1074 - ((1074 - e).toNat : Int)).toNat = e.toNat by omega,show (((1074 - e).toNat : Int) - (0 + 1074)).toNat = (-e).toNat by omega,← hN,← hM,hm,Bool.toNat_false];rcases Nat.lt_or_ge m 4503599627370496 with hs | hs
   ·have he4 : e = 1074:=by
     rcases Int.lt_or_le e 1074 with h | h
     ·exfalso;have h1 : 4503599627370496 ≤ N / M:=(Nat.le_div_iff_mul_le hMp).2 (h52 h);(have h2 : N / M ≤ m:=by rw [← hm];unfold rneQ;omega);omega
     ·omega
    rw [Zmx m _ hs,he4];rfl
   ·rw [Ze9 m _ (1074 - e).toNat hs hml (by omega) (by omega)]
 | true =>
  have hu3 : 36028797018963966 ≤ u:=of_decide_eq_true hsb;rw [Bool.toNat_true,Nat.pow_one,hu,ZnS _ _ hMp] at hv;have hv2 : v = unr (4 * N) (M * 2):=hv.symm;(have hMp2 : 0 < M * 2:=by omega);rw [hv2,ZlJ N (M * 2) hMp2] at hm;have hq2 : 36028797018963966 ≤ 4 * N / M:=by omega
  have h4N : 36028797018963966 * M ≤ 4 * N:=by
   have:=(Nat.le_div_iff_mul_le hMp).1 hq2;omega
  rcases Nat.lt_or_ge N (9007199254740992 * M) with hs | hs
  ·have e1 : rneQ N (M * 2) = 4503599627370496:=Zml hMp2 (by omega) (by omega) (by omega) (by omega);have e2 : rneQ N M = 9007199254740992:=Zml hMp (by omega) (by omega) (by omega) (by omega);rw [e1] at hm;refine ⟨by omega,?_⟩;refine Zdk (1074 - e).toNat ?_ ?_ ?_
   ·rw [show (0 + 1074 - ((1074 - e).toNat : Int)).toNat = e.toNat by omega,show (((1074 - e).toNat : Int) - (0 + 1074)).toNat = (-e).toNat by omega,← hN,← hM];exact hs
   ·rw [show (0 + 1074 - ((1074 - e).toNat : Int)).toNat = e.toNat by omega,show (((1074 - e).toNat : Int) - (0 + 1074)).toNat = (-e).toNat by omega,← hN,← hM];intro _;omega
   ·rw [show (0 + 1074 - ((1074 - e).toNat : Int)).toNat = e.toNat by omega,show (((1074 - e).toNat : Int) - (0 + 1074)).toNat = (-e).toNat by omega,← hN,← hM,e2,Bool.toNat_true];(have e5 : (1074 - e).toNat * 4503599627370496 + 9007199254740992 = ((1074 - e).toNat + 1) * 4503599627370496 + m:=by omega);rw [e5];exact Ze9 m _ ((1074 - e).toNat + 1) (by omega) (by omega) (by omega) (by omega)
  ·have hml : m < 9007199254740992:=by
    rw [← hm];exact Zmj hMp2 (by omega) (by decide)
   refine ⟨hml,?_⟩
   have hsame : ∀ X Y : Nat,0 < Y → X * (M * 2) = N * Y → rneQ X Y = rneQ N (M * 2):=fun X Y hY h => by
    rw [← Zcl X Y (M * 2) hMp2,← Zcl N (M * 2) Y hY,h,Nat.mul_comm Y (M * 2)]
   have hXY : A * 2 ^ (e - 1).toNat * (M * 2) = N * (B * 2 ^ (1 - e).toNat):=by
    rw [hN,hM]
    have e1 : 2 ^ (e - 1).toNat * 2 ^ (-e).toNat * 2 = 2 ^ e.toNat * 2 ^ (1 - e).toNat:=by
     rw [← Nat.pow_add,← Nat.pow_succ,← Nat.pow_add];congr 1;omega
    calc A * 2 ^ (e - 1).toNat * (B * 2 ^ (-e).toNat * 2) = A * B * (2 ^ (e - 1).toNat * 2 ^ (-e).toNat * 2):=by ac_rfl
     _ = A * B * (2 ^ e.toNat * 2 ^ (1 - e).toNat):=by rw [e1]
     _ = _:=by ac_rfl
   have hYp : 0 < B * 2 ^ (1 - e).toNat:=Nat.mul_pos hB (Nat.pow_pos (by omega));have hr:=hsame _ _ hYp hXY;rw [hm] at hr;refine Zdk (1075 - e).toNat ?_ ?_ ?_
   ·rw [show (0 + 1074 - ((1075 - e).toNat : Int)).toNat = (e - 1).toNat by omega,show (((1075 - e).toNat : Int) - (0 + 1074)).toNat = (1 - e).toNat by omega]
    generalize A * 2 ^ (e - 1).toNat = X at *
    generalize B * 2 ^ (1 - e).toNat = Y at *
    apply Nat.lt_of_mul_lt_mul_right (a:=M * 2);rw [hXY]
    calc N * Y < 9007199254740992 * (M * 2) * Y:=Nat.mul_lt_mul_of_pos_right (by omega) hYp
     _ = _:=by ac_rfl
   ·intro _;rw [show (0 + 1074 - ((1075 - e).toNat : Int)).toNat = (e - 1).toNat by omega,show (((1075 - e).toNat : Int) - (0 + 1074)).toNat = (1 - e).toNat by omega]
    generalize A * 2 ^ (e - 1).toNat = X at *
    generalize B * 2 ^ (1 - e).toNat = Y at *
    apply Nat.le_of_mul_le_mul_right (c:=M * 2) ?_ hMp2;rw [hXY]
    calc 4503599627370496 * Y * (M * 2) = 4503599627370496 * (M * 2) * Y:=by ac_rfl
     _ ≤ N * Y:=Nat.mul_le_mul_right _ (by omega)
   ·rw [show (0 + 1074 - ((1075 - e).toNat : Int)).toNat = (e - 1).toNat by omega,show (((1075 - e).toNat : Int) - (0 + 1074)).toNat = (1 - e).toNat by omega,hr,Bool.toNat_true]
    have hm52 : 4503599627370496 ≤ m:=by
     have h1 : 4503599627370496 ≤ N / (M * 2):=(Nat.le_div_iff_mul_le hMp2).2 (by omega);(have h2 : N / (M * 2) ≤ m:=by rw [← hm];unfold rneQ;omega);omega
    exact Ze9 m _ (1075 - e).toNat hm52 hml (by omega) (by omega)
end Go.Proofs.YtfoekmfpcahmiabGreatDoor.PN
namespace Go.Proofs.YtfoekmfpcahmiabGreatDoor.SF
open Go.RowKit YtfoekmfpcahmiabGreatDoorW.PrintWords CB CQ PN
structure Zj1 (w : World) (B : Nat) : Prop where mk ::
 blk : 13 < B
 out : ∀ p : Int,-348 ≤ p → p ≤ 347 → ∃ hi lo : Nat,w.cell? ⟨13,(p + 348).toNat * 2,none⟩ = some (.int .u64 hi) ∧ w.cell? ⟨13,(p + 348).toNat * 2 + 1,none⟩ = some (.int .u64 lo) ∧ hi < 18446744073709551616 ∧ lo < 18446744073709551616 ∧ (hi : Int) * 18446744073709551616 - lo = US.pm p
theorem Zj1.below {w w' : World} {B : Nat} (h : Zj1 w B) (hb : Below B w w') : Zj1 w' B:=by
 refine ⟨h.blk,fun p h1 h2 => ?_⟩;obtain ⟨hi,lo,a1,a2,a3⟩:=h.out p h1 h2;exact ⟨hi,lo,(hb.cell (p:=⟨_,_,none⟩) h.blk).trans a1,(hb.cell (p:=⟨_,_,none⟩) h.blk).trans a2,a3⟩
theorem pow_int (n : Int) (h : 0 ≤ n) : 2 ^ (n + 1).toNat = 2 ^ n.toNat * 2:=by
 rw [← Nat.pow_succ];congr 1;omega
theorem ZiE {A B : Nat} (h : A * 2 ^ (1075 : Int).toNat < B) : ZbB A B 0 0:=by
 have e:=pow_int 1074 (by omega);rw [show (1074 + 1 : Int) = 1075 from rfl] at e;rw [e] at h;have e1 : (0 + 1074 - ((0 : Nat) : Int)).toNat = (1074 : Int).toNat:=rfl;have e2 : (((0 : Nat) : Int) - (0 + 1074)).toNat = 0:=rfl;refine Zdk 0 ?_ (fun h => absurd rfl h) ?_
 ·rw [e1,e2,Nat.pow_zero,Nat.mul_one]
  generalize 2 ^ (1074 : Int).toNat = K at *
  rw [← Nat.mul_assoc] at h;omega
 ·rw [e1,e2,Nat.pow_zero,Nat.mul_one]
  generalize 2 ^ (1074 : Int).toNat = K at *
  rw [← Nat.mul_assoc] at h;rw [Zka (by omega),Nat.zero_mul,Nat.zero_add,Nat.min_eq_left (Nat.zero_le _)]
def Zgw (v : Value) : Prop:=v = .nilIface ∨ v = .iface 88 (.int .i64 1)
theorem Zoj (m : Nat) (e : Int) : Zgw (Zju m e):=by
 unfold Zju Zgw;split
 ·exact .inl rfl
 ·split
  ·exact .inr rfl
  ·exact .inl rfl
theorem Zf5 (d : Nat) (p : Int) (hd1 : 1 ≤ d) (hd : d < 18446744073709551616) (hp1 : -348 ≤ p) (hp2 : p ≤ 347) :
  ∃ (u : Nat) (ev : Value),Zgw ev ∧ ZbB (d * 10 ^ p.toNat) (10 ^ (-p).toNat) 0 u ∧ ∀ (w : World) (B : Nat),B ≤ w.heap.size → Zj1 w B → Calls Tryz.prog 120 #[.int .u64 d,.int .i64 p,.int .u64 0] w fun r w' => r = .returned (.tuple #[.float .f64 u,ev]) ∧ Below w.heap.size w w':=by
 have hB : 0 < 10 ^ (-p).toNat:=Nat.pow_pos (by omega);obtain ⟨hb1,hbl,hbg⟩:=Lib.bitLenAux_bounds 64 d hd (by omega);have hb64 : Lib.bitLen d ≤ 64:=Lib.bitLen_le d 64 (by omega) hd;change 1 ≤ Lib.bitLen d at hb1;change 2 ^ (Lib.bitLen d - 1) ≤ d at hbl;change d < 2 ^ Lib.bitLen d at hbg;(have hl1 : -2000 ≤ US.lp p:=by unfold US.lp;omega);have hl2 : US.lp p ≤ 2000:=by unfold US.lp;omega
 generalize hb : Lib.bitLen d = b at *
 obtain ⟨e,he⟩ : ∃ e : Int,min 1074 (53 - (b : Int) - US.lp p) = e:=⟨_,rfl⟩;obtain ⟨s,hs⟩ : ∃ s : Int,-(e - (64 - (b : Int)) + US.lp p + 3) = s:=⟨_,rfl⟩;(have he4 : e ≤ 1074:=by omega);rcases Int.lt_or_le s 64 with hs64 | hs64
 ·(have hs8 : 8 ≤ s:=by omega);obtain ⟨sn,rfl⟩ : ∃ n : Nat,s = n:=⟨s.toNat,by omega⟩;obtain ⟨N,hN⟩ : ∃ N,N = d * 10 ^ p.toNat * 2 ^ e.toNat:=⟨_,rfl⟩;obtain ⟨M,hM⟩ : ∃ M,M = 10 ^ (-p).toNat * 2 ^ (-e).toNat:=⟨_,rfl⟩;have hMp : 0 < M:=by rw [hM];exact Nat.mul_pos hB (Nat.pow_pos (by omega))
  have hx2 : d * 2 ^ (64 - b) < 18446744073709551616:=by
   have h1 : d * 2 ^ (64 - b) < 2 ^ b * 2 ^ (64 - b):=Nat.mul_lt_mul_of_pos_right hbg (Nat.pow_pos (by omega));rw [← Nat.pow_add,show b + (64 - b) = 64 by omega] at h1;exact h1
  have hx0 : 9223372036854775808 ≤ d * 2 ^ (64 - b):=by
   have h1 : 2 ^ (b - 1) * 2 ^ (64 - b) ≤ d * 2 ^ (64 - b):=Nat.mul_le_mul_right _ hbl;rw [← Nat.pow_add,show b - 1 + (64 - b) = 63 by omega] at h1;exact h1
  obtain ⟨δ,d1,d2,d3⟩:=US.pm_up p;have hV:=US.V_pos p
  have h54 : N < 18014381329612800 * M:=by
   have h1:=Zik d b p e hp1 hp2 hbg 54 (by omega);rw [← hN,← hM,show (2 : Nat) ^ 54 = 18014398509481984 by decide] at h1;omega
  have h52 : e < 1074 → 4503599627370496 * M ≤ N:=by
   intro h;have h1:=Zl9 d b p e hp1 hp2 hb1 hbl 52 (by omega);rw [← hN,← hM,show (2 : Nat) ^ 52 = 4503599627370496 by decide] at h1;exact h1
  obtain ⟨u,hu2⟩ : ∃ u,u = US.unr (4 * N) M:=⟨_,rfl⟩;obtain ⟨sb,hsb⟩ : ∃ sb,decide (36028797018963966 ≤ u) = sb:=⟨_,rfl⟩;obtain ⟨v,hv⟩ : ∃ v,u / 2 ^ sb.toNat ||| u % 2 = v:=⟨_,rfl⟩;obtain ⟨m,hm⟩ : ∃ m,(v + 1 + v / 4 % 2) / 4 = m:=⟨_,rfl⟩;obtain ⟨f1,f2,f3⟩:=Zm7 (d * 10 ^ p.toNat) (10 ^ (-p).toNat) e he4 hB N M u hN hM h54 h52 hu2 sb hsb v m hv hm;refine ⟨ZgE m (-(e - (sb.toNat : Int))),Zju m (-(e - (sb.toNat : Int))),Zoj _ _,f3,fun w B hw ht => ?_⟩;obtain ⟨hi,lo,c0,c1,hhi,hlo,hpm⟩:=ht.out p hp1 hp2;have hblk : 13 < w.heap.size:=Nat.lt_of_lt_of_le ht.blk hw
  have hu : US.usc (d * 2 ^ (64 - b)) hi lo sn = US.unr (4 * N) M:=by
   rw [US.usc_unr (d * 2 ^ (64 - b)) hi lo sn (US.U p) (US.V p) (2 ^ sn * 340282366920938463463374607431768211456) δ hx2 hlo hV d1 d2 rfl (by rw [hpm];exact d3) (fun q r h1 h2 h3 => US.Zla p hp1 hp2 _ sn _ q r (by omega) hx0 hx2 rfl (by rw [← hpm];exact h1) h2 h3)];refine ZnR (Nat.mul_pos (Nat.mul_pos (Nat.pow_pos (by omega)) (by omega)) hV) hMp ?_;rw [hN,hM];exact scaled d b sn p e hb64 (by omega)
  have hpos : d * 2 ^ (64 - b) * lo ≤ d * 2 ^ (64 - b) * hi * 18446744073709551616:=by
   rw [Nat.mul_assoc (d * 2 ^ (64 - b)) hi];refine Nat.mul_le_mul_left _ ?_;have : (0 : Int) ≤ US.pm p:=Int.natCast_nonneg _;omega
  refine (Zk8 d b (d * 2 ^ (64 - b)) u v m p e sn (e - (sb.toNat : Int)) sb hi lo w hb hd hb1 hb64 hp1 hp2 he hs hs64 (by omega) hblk rfl hx2 (by rw [Int.toNat_natCast,hu2];exact hu) f1 hsb hv hm f2 rfl hhi hlo hpos c0 c1).mono ?_;rintro r w' ⟨rfl,hw'⟩;exact ⟨rfl,hw'⟩
 ·refine ⟨0,.nilIface,.inl rfl,?_,fun w B hw ht => ?_⟩
  case refine_2 =>
   obtain ⟨hi,lo,c0,c1,hhi,hlo,hpm⟩:=ht.out p hp1 hp2;have hblk : 13 < w.heap.size:=Nat.lt_of_lt_of_le ht.blk hw;exact Zjt d b p e s hi lo w hb hd hb1 hb64 hp1 hp2 he hs hs64 hblk c0 c1
  have h1:=Zik d b p 1075 hp1 hp2 hbg 0 (by omega);rw [show (-(1075 : Int)).toNat = 0 from rfl,Nat.pow_zero,Nat.mul_one,Nat.mul_one] at h1;exact ZiE (by omega)
end Go.Proofs.YtfoekmfpcahmiabGreatDoor.SF
namespace Go.Proofs.YtfoekmfpcahmiabGreatDoor.XF
open Ieee CR CF CG CH CV CQ
def Whole (x N : Nat) : Prop:=x < 9223372036854775808 ∧ ∃ (m : Nat) (i : Int),double.read x = .number false m i ∧ m * 2 ^ i.toNat = N * 2 ^ (-i).toNat
theorem Zg1 (N : Nat) (h0 : N ≠ 0) (h : N < 9007199254740992) : Whole (double.nearest false N 0) N:=by
  obtain ⟨k,hk⟩ : ∃ k : Nat,k = 1074:=⟨_,rfl⟩;have hl:=ZeK (n:=N) (k:=53) h h0;have hf : fits (N * 2 ^ k):=⟨⟨N,k,h,rfl⟩,by rw [Zgf _ _ h0];omega⟩
  have hw : wd (N * 2 ^ k) = double.nearest false N 0:=by
    unfold wd;rw [show (-1074 : Int) = 0 - (k : Int) by omega];exact ZcN false N k 0 h0
  refine ⟨by rw [← hw];exact wd_lt _,?_⟩;obtain ⟨m,e,h1,h2,h3,_⟩:=wd_read hf;rw [hw] at h1;refine ⟨m,e,h1,?_⟩;have hp : 0 < 2 ^ k:=Nat.pow_pos (by omega);apply Nat.eq_of_mul_eq_mul_right hp
  calc m * 2 ^ e.toNat * 2 ^ k = m * (2 ^ (e + 1074).toNat * 2 ^ (-e).toNat) := by
        rw [Nat.mul_assoc,← Nat.pow_add,← Nat.pow_add];congr 2;omega
    _ = N * 2 ^ (-e).toNat * 2 ^ k:=by rw [← Nat.mul_assoc,h3];ac_rfl
theorem Zev {x y N K : Nat} (hx : Whole x N) (hy : Whole y K) (hN : N ≠ 0) (hK : K ≠ 0) : ∃ z,double.mul x y = some z ∧ ZbB (N * K) 1 0 z:=by
 obtain ⟨_,m,i,h1,h2⟩:=hx;obtain ⟨_,n,j,h3,h4⟩:=hy
 have hm : m ≠ 0:=fun h => by
  subst h;rw [Nat.zero_mul] at h2;exact absurd h2.symm (Nat.mul_ne_zero hN (Nat.ne_of_gt (Nat.pow_pos (by omega))))
 have hn : n ≠ 0:=fun h => by
  subst h;rw [Nat.zero_mul] at h4;exact absurd h4.symm (Nat.mul_ne_zero hK (Nat.ne_of_gt (Nat.pow_pos (by omega))))
 refine ⟨_,ZiF h1 h3,?_⟩;have hne:=Zc3 (M:=m * n) (E:=i + j) (Nat.mul_ne_zero hm hn);refine (Zcu (A:=m * n) (B:=1) (C:=N * K) (D:=1) (E:=i + j) (F:=0) (by omega) (by omega) ((-i).toNat + (-j).toNat) (i.toNat + j.toNat) (by omega) ?_).1 hne;rw [Nat.mul_one,Nat.mul_one,Nat.pow_add,Nat.pow_add]
 calc m * n * (2 ^ i.toNat * 2 ^ j.toNat) = (m * 2 ^ i.toNat) * (n * 2 ^ j.toNat):=by ac_rfl
  _ = (N * 2 ^ (-i).toNat) * (K * 2 ^ (-j).toNat):=by rw [h2,h4]
  _ = _:=by ac_rfl
theorem ZlE {x y N K : Nat} (hx : Whole x N) (hy : Whole y K) (hN : N ≠ 0) (hK : K ≠ 0) : ∃ z,double.div x y = some z ∧ ZbB N K 0 z:=by
 obtain ⟨_,m,i,h1,h2⟩:=hx;obtain ⟨_,n,j,h3,h4⟩:=hy
 have hm : m ≠ 0:=fun h => by
  subst h;rw [Nat.zero_mul] at h2;exact absurd h2.symm (Nat.mul_ne_zero hN (Nat.ne_of_gt (Nat.pow_pos (by omega))))
 have hn : n ≠ 0:=fun h => by
  subst h;rw [Nat.zero_mul] at h4;exact absurd h4.symm (Nat.mul_ne_zero hK (Nat.ne_of_gt (Nat.pow_pos (by omega))))
 obtain ⟨u,hu⟩ : ∃ u,72057594037927936 ≤ m * 2 ^ u / n:=by
  refine ⟨54 + n.log2 - m.log2 + 3,?_⟩;have hq:=Zmt m n hn hm
  have h5 : m * 2 ^ (54 + n.log2 - m.log2) / n * 8 ≤ m * 2 ^ (54 + n.log2 - m.log2 + 3) / n:=by
   rw [Nat.le_div_iff_mul_le (Nat.pos_of_ne_zero hn),Nat.pow_add];have h6:=Nat.div_mul_le_self (m * 2 ^ (54 + n.log2 - m.log2)) n
   calc m * 2 ^ (54 + n.log2 - m.log2) / n * 8 * n = m * 2 ^ (54 + n.log2 - m.log2) / n * n * 8:=by ac_rfl
    _ ≤ m * 2 ^ (54 + n.log2 - m.log2) * 8:=Nat.mul_le_mul_right _ h6
    _ = _:=by rw [show (8 : Nat) = 2 ^ 3 by decide];ac_rfl
  omega
 have hd : ∃ z,double.div x y = some z:=by
  unfold Format.div;rw [h1,h3];unfold Datum.quotient;simp only [if_neg hn];exact ⟨_,rfl⟩
 obtain ⟨z,hz⟩:=hd;refine ⟨z,hz,?_⟩;have hf:=Znk h1 h3 hn hm u (by omega);(have hz2 : divT x y = z:=by unfold divT;rw [hz];rfl);rw [hz2] at hf;have hnr:=Zge (A:=m * 2 ^ u) (B:=n) (E:=i - j - u) (Nat.pos_of_ne_zero hn) rfl hu
 have hs : Zen false (m * 2 ^ u / n) (i - j - u) (decide (m * 2 ^ u % n ≠ 0)) = z:=by
  rw [hf];unfold Zen quo;by_cases h0 : m * 2 ^ u % n = 0
  ·rw [decide_eq_false (by omega)];simp only [Bool.false_eq_true,if_false,Bool.toNat_false,Nat.add_zero,Bool.xor_false];(have hM : m * 2 ^ u / n ≠ 0:=by omega);have:=ZcN false (m * 2 ^ u / n) 1 (i - j - u) hM;rw [← this,Nat.pow_one,Nat.mul_comm 2]
   congr 1
  ·rw [decide_eq_true h0];simp only [if_true,Bool.toNat_true,Bool.xor_false]
 rw [hs] at hnr;refine (Zcu (A:=m * 2 ^ u) (B:=n) (C:=N) (D:=K) (E:=i - j - u) (F:=0) (Nat.pos_of_ne_zero hn) (Nat.pos_of_ne_zero hK) (u + (-i).toNat + j.toNat) (i.toNat + (-j).toNat) (by omega) ?_).1 hnr;rw [Nat.pow_add,Nat.pow_add,Nat.pow_add]
 calc m * 2 ^ u * (2 ^ i.toNat * 2 ^ (-j).toNat) * K = (m * 2 ^ i.toNat) * (K * 2 ^ (-j).toNat) * 2 ^ u:=by ac_rfl
  _ = (N * 2 ^ (-i).toNat) * (n * 2 ^ j.toNat) * 2 ^ u:=by rw [h2,h4]
  _ = _:=by ac_rfl
theorem Znu {a b : Int} (h : b < a) : compare a b = .gt:=by
 show compareOfLessAndEq a b = .gt;unfold compareOfLessAndEq;rw [if_neg (by omega),if_neg (by omega)]
theorem Zkj (W : Nat) (E : Int) : double.nearest false W E < 9223372036854775808:=by
 by_cases h : W = 0
 ·subst h;rw [ZcB];decide
 ·rw [Zdj false W E h];unfold ZcA enc;simp only [Bool.false_eq_true,if_false];exact Nat.lt_of_le_of_lt (Nat.min_le_right _ _) (by decide)
theorem Zgb (W : Nat) : (double.order (double.nearest false W 0) 14054727237768577024 == some .lt) = false:=by
 have hn:=Zem false W 0;have hp:=Zkj W 0
 generalize double.nearest false W 0 = x at *
 rw [Zhx x 14054727237768577024 hn.2 (by decide),if_neg (by rw [hn.1];decide)];have k1 : keyI x = x:=if_neg (by omega);(have k2 : keyI 14054727237768577024 = -4831355200913801216:=by decide);rw [k1,k2,Znu (by omega)];rfl
theorem Zop (W : Nat) (h : 9007199254740992 ≤ W) : (double.order (double.nearest false W 0) 4831355200913801216 == some .gt) = true:=by
 (have h0 : W ≠ 0:=by omega);have hl : 53 ≤ W.log2:=Zkk (k:=53) h;have hn:=Zem false W 0;have hk:=(Zg4 W 0 h0).2 (by unfold ZaA;omega);have hw:=Zdj false W 0 h0;have hp : 1 ≤ ZaA W 0:=by unfold ZaA;omega
 generalize rne (W * 2 ^ (0 - ZaA W 0).toNat) (ZaA W 0 - 0).toNat = q at *
 generalize ZaA W 0 = l at *
 have hlt : 4831355200913801216 < double.nearest false W 0:=by
  rw [hw];unfold ZcA enc;simp only [Bool.false_eq_true,if_false];(have h1 : 1075 ≤ (l + 1074).toNat:=by omega);(have h2 : 4831355200913801216 < (l + 1074).toNat * 4503599627370496 + q:=by omega);exact Nat.lt_min.2 ⟨h2,by decide⟩
 have hps:=Zkj W 0
 generalize double.nearest false W 0 = x at *
 rw [Zhx x 4831355200913801216 hn.2 (by decide),if_neg (by rw [hn.1];decide)];have k1 : keyI x = x:=if_neg (by omega);(have k2 : keyI 4831355200913801216 = 4831355200913801216:=by decide);rw [k1,k2,Znu (by omega)];rfl
theorem Zor {x y N K z : Nat} (hx : Whole x N) (hy : Whole y K) (hN : N ≠ 0) (hK : K ≠ 0) (hz : double.mul x y = some z) : z = double.nearest false (N * K) 0:=by
 obtain ⟨z',h1,h2⟩:=Zev hx hy hN hK;obtain rfl : z = z':=Option.some.inj (hz.symm.trans h1);exact ZdF h2 (Zc3 (Nat.mul_ne_zero hN hK))
end Go.Proofs.YtfoekmfpcahmiabGreatDoor.XF
namespace Go.Proofs.YtfoekmfpcahmiabGreatDoor.SF
open Go.RowKit YtfoekmfpcahmiabGreatDoorW.PrintWords CB CQ XF
structure Tens (w : World) (B : Nat) : Prop where mk ::
 out : ∃ ab ao ac : Nat,ab < B ∧ 11 < B ∧ w.cell? ⟨11,0,none⟩ = some (.slice (some ⟨ab,ao,none⟩) 23 ac) ∧ ∀ n,n ≤ 22 → ∃ y,w.cell? ⟨ab,ao + n,none⟩ = some (.float .f64 y) ∧ Whole y (10 ^ n)
theorem Tens.below {w w' : World} {B : Nat} (h : Tens w B) (hb : Below B w w') : Tens w' B:=by
 obtain ⟨ab,ao,ac,h1,h2,h3,h4⟩:=h;refine ⟨ab,ao,ac,h1,h2,(hb.cell (p:=⟨_,0,none⟩) h2).trans h3,fun n hn => ?_⟩;obtain ⟨y,a1,a2⟩:=h4 n hn;exact ⟨y,(hb.cell (p:=⟨ab,_,none⟩) h1).trans a1,a2⟩
theorem ZjG (d : Nat) (p : Int) (w : World) (B : Nat) (hd1 : 1 ≤ d) (hp1 : -10000 ≤ p) (hp2 : p ≤ 10000) (hi : Zea w B) (ht : Tens w B) :
  ∃ (u : Nat) (ok : Bool),(ok = true → ZbB (d * 10 ^ p.toNat) (10 ^ (-p).toNat) 0 u) ∧ Calls Tryz.prog 119 #[.int .u64 d,.int .i64 p,.bool false] w fun r w' => r = .returned (.tuple #[.float .f64 u,.bool ok]) ∧ w = w':=by
 obtain ⟨ab,ao,ac,_,_,hs,hten⟩:=ht;have hm:=hi.mant;(have h0 : d ≠ 0:=by omega);by_cases hd : d < 4503599627370496
 ·have hx:=Zg1 d h0 (by omega);have hxe:=Zc3 (M:=d) (E:=0) h0;by_cases hp0 : p = 0
  ·subst hp0;refine ⟨_,true,fun _ => ?_,Zlp d _ w hd rfl hm⟩;rw [show ((0 : Int)).toNat = 0 from rfl,show (-(0 : Int)).toNat = 0 from rfl,Nat.pow_zero,Nat.mul_one];exact hxe
  ·by_cases hfar : 37 < p ∨ p < -22
   ·exact ⟨_,false,fun h => (by cases h),Znc d _ p w hd rfl hfar hp1 hp2 hm⟩
   ·rcases Int.lt_or_le p 0 with hneg | hpos
    ·obtain ⟨n,rfl⟩ : ∃ n : Nat,p = -(n : Int):=⟨(-p).toNat,by omega⟩;obtain ⟨y,y1,y2⟩:=hten n (by omega);obtain ⟨z,z1,z2⟩:=ZlE hx y2 h0 (Nat.ne_of_gt (Nat.pow_pos (by omega)));refine ⟨_,true,fun _ => ?_,ZjH d _ y z n ac ab ao w hd rfl (by omega) (by omega) hm hs y1 z1⟩;rw [show (-(n : Int)).toNat = 0 by omega,show (- -(n : Int)).toNat = n by omega,Nat.pow_zero,Nat.mul_one];exact z2
    ·obtain ⟨n,rfl⟩ : ∃ n : Nat,p = (n : Int):=⟨p.toNat,by omega⟩;rw [Int.toNat_natCast,show (-(n : Int)).toNat = 0 by omega,Nat.pow_zero];by_cases h22 : n ≤ 22
     ·obtain ⟨y,y1,y2⟩:=hten n h22;obtain ⟨z,z1,z2⟩:=Zev hx y2 h0 (Nat.ne_of_gt (Nat.pow_pos (by omega)))
      cases ho : (FloatKind.f64.format.order (Ieee.double.nearest false d 0) 4831355200913801216 == some .gt) with
      | true =>
       exact ⟨_,false,fun h => (by cases h),Zgp d _ n w hd rfl (by omega) h22 hm ho⟩
      | false =>
       exact ⟨_,true,fun _ => z2,ZjI d _ y z n ac ab ao w hd rfl (by omega) h22 hm hs y1 z1 ho (Zgb d)⟩
     ·obtain ⟨y,y1,y2⟩:=hten (n - 22) (by omega);obtain ⟨y',y3,y4⟩:=hten 22 (by omega);obtain ⟨x2,q1,_⟩:=Zev hx y2 h0 (Nat.ne_of_gt (Nat.pow_pos (by omega)));have hq:=Zor hx y2 h0 (Nat.ne_of_gt (Nat.pow_pos (by omega))) q1;have hW0 : d * 10 ^ (n - 22) ≠ 0:=Nat.mul_ne_zero h0 (Nat.ne_of_gt (Nat.pow_pos (by omega)))
      cases ho : (FloatKind.f64.format.order x2 4831355200913801216 == some .gt) with
      | true =>
       exact ⟨_,false,fun h => (by cases h),ZgI d _ x2 y n ac ab ao w hd rfl (by omega) (by omega) hm hs y1 q1 ho⟩
      | false =>
       have hW : d * 10 ^ (n - 22) < 9007199254740992:=by
        rcases Nat.lt_or_ge (d * 10 ^ (n - 22)) 9007199254740992 with h | h
        ·exact h
        ·exfalso;have:=Zop _ h;rw [← hq] at this;exact absurd (ho.symm.trans this) (by decide)
       have hx2:=Zg1 _ hW0 hW;rw [← hq] at hx2;obtain ⟨z,z1,z2⟩:=Zev hx2 y4 hW0 (by decide)
       have hlt : (FloatKind.f64.format.order x2 14054727237768577024 == some .lt) = false:=by
        rw [hq];exact Zgb _
       refine ⟨_,true,fun _ => ?_,Zlr d _ x2 y y' z n ac ab ao w hd rfl (by omega) (by omega) hm hs y1 q1 y3 z1 ho hlt⟩;rw [Nat.mul_assoc,← Nat.pow_add,show n - 22 + 22 = n by omega] at z2;exact z2
 ·exact ⟨_,false,fun h => (by cases h),ZoC d p w (by omega) hm⟩
end Go.Proofs.YtfoekmfpcahmiabGreatDoor.SF
namespace Go.Proofs.YtfoekmfpcahmiabGreatDoor.PN
open CQ SF
theorem rneQ_up {A C B : Nat} (hB : 0 < B) (h : A ≤ C) : rneQ A B ≤ rneQ C B:=by
 have h1:=Nat.div_add_mod A B;have h2:=Nat.mod_lt A hB;have h3:=Nat.div_add_mod C B;have h4:=Nat.mod_lt C hB;have h5 : A / B ≤ C / B:=Nat.div_le_div_right h;unfold rneQ;rcases Nat.eq_or_lt_of_le h5 with h6 | h6
 ·rw [← h6] at h3 ⊢;(have h7 : A % B ≤ C % B:=by omega);split
  ·rename_i hc
   rw [if_pos (by omega)];omega
  ·omega
 ·split <;> omega
theorem Zmi {A B C D : Nat} (hB : 0 < B) (hD : 0 < D) (h : A * D ≤ C * B) : rneQ A B ≤ rneQ C D:=by
 rw [← Zcl A B D hD,← Zcl C D B hB,Nat.mul_comm D B];exact rneQ_up (Nat.mul_pos hB hD) h
theorem Zlf {A B C D v w : Nat} (hB : 0 < B) (hD : 0 < D) (h : A * D ≤ C * B) (hv : Zfi A B v) (hw : Zfi C D w) : v ≤ w:=by
 obtain ⟨j,a1,a2,rfl⟩:=hv;obtain ⟨k,b1,b2,rfl⟩:=hw;have hp : ∀ n,0 < 2 ^ n:=fun n => Nat.pow_pos (by omega);have hBj : 0 < B * 2 ^ j:=Nat.mul_pos hB (hp j);have hDk : 0 < D * 2 ^ k:=Nat.mul_pos hD (hp k);(have hmin : ∀ x y : Nat,x ≤ y → min x 9218868437227405312 ≤ min y 9218868437227405312:=fun x y hxy => by omega);apply hmin;rcases Nat.lt_trichotomy j k with hjk | hjk | hjk
 ·have h1 : rneQ A (B * 2 ^ j) ≤ 9007199254740992:=Zmk hBj (Nat.le_of_lt a1);have h2 : 4503599627370496 ≤ rneQ C (D * 2 ^ k):=Zjo hDk (b2 (by omega));have h3 : (j + 1) * 4503599627370496 ≤ k * 4503599627370496:=Nat.mul_le_mul_right _ hjk;omega
 ·subst hjk
  have h1 : rneQ A (B * 2 ^ j) ≤ rneQ C (D * 2 ^ j):=Zmi hBj hDk (by
   calc A * (D * 2 ^ j) = A * D * 2 ^ j:=by ac_rfl
    _ ≤ C * B * 2 ^ j:=Nat.mul_le_mul_right _ h
    _ = _:=by ac_rfl)
  omega
 ·exfalso;have h1:=a2 (by omega);have h2 : (2 : Nat) ^ (k + 1) ≤ 2 ^ j:=Nat.pow_le_pow_right (by omega) hjk;have h3 : C * B < 9007199254740992 * (D * 2 ^ k) * B:=Nat.mul_lt_mul_of_pos_right b1 hB;have h4 : 4503599627370496 * (B * 2 ^ (k + 1)) * D ≤ 4503599627370496 * (B * 2 ^ j) * D:=Nat.mul_le_mul_right _ (Nat.mul_le_mul_left _ (Nat.mul_le_mul_left _ h2));have h5 : 4503599627370496 * (B * 2 ^ j) * D ≤ A * D:=Nat.mul_le_mul_right _ h1
  have h6 : 9007199254740992 * (D * 2 ^ k) * B = 4503599627370496 * (B * 2 ^ (k + 1)) * D:=by
   rw [Nat.pow_succ,show (9007199254740992 : Nat) = 4503599627370496 * 2 by decide];ac_rfl
  omega
theorem Zfc {A B C D v w : Nat} (hB : 0 < B) (hD : 0 < D) (h : A * D ≤ C * B) (hv : ZbB A B 0 v) (hw : ZbB C D 0 w) : v ≤ w:=by
 unfold ZbB at hv hw;refine Zlf (Nat.mul_pos hB (Nat.pow_pos (by omega))) (Nat.mul_pos hD (Nat.pow_pos (by omega))) ?_ hv hw;generalize 2 ^ (0 + 1074 : Int).toNat = x;generalize 2 ^ (-(0 + 1074) : Int).toNat = y
 calc A * x * (D * y) = A * D * (x * y):=by ac_rfl
  _ ≤ C * B * (x * y):=Nat.mul_le_mul_right _ h
  _ = _:=by ac_rfl
theorem Zc4 {A B : Nat} (hB : 0 < B) : ∃ w,ZbB A B 0 w:=ZiD (Nat.mul_pos hB (Nat.pow_pos (by omega)))
theorem ZhC {A B X Y C D u : Nat} (hB : 0 < B) (hY : 0 < Y) (hD : 0 < D) (h1 : A * Y ≤ X * B) (h2 : X * D ≤ C * Y) (hv : ZbB A B 0 u) (hw : ZbB C D 0 u) : ZbB X Y 0 u:=by
 obtain ⟨w,h⟩:=Zc4 (A:=X) hY;have e1:=Zfc hB hY h1 hv h;have e2:=Zfc hY hD h2 h hw;obtain rfl : w = u:=Nat.le_antisymm e2 e1;exact h
theorem ZlO (n : Nat) : top2 * 2 ^ n = 2 ^ (1024 + n):=by unfold top2;exact (Nat.pow_add 2 1024 n).symm
theorem ZmP {A B : Nat} (hB : 0 < B) (h : top2 * B ≤ A) : ZbB A B 0 9218868437227405312:=by
 obtain ⟨w,hw⟩:=Zc4 (A:=A) hB;have hw2:=hw;unfold ZbB Zfi at hw2;obtain ⟨j,a1,a2,a3⟩:=hw2;have e0 : (-(0 + 1074) : Int).toNat = 0:=rfl;rw [e0,Nat.pow_zero,Nat.mul_one] at a1 a2 a3
 have hj : 2046 ≤ j:=by
  rcases Nat.lt_or_ge j 2046 with hj | hj
  ·exfalso;obtain ⟨t,ht⟩ : ∃ t : Nat,t = (0 + 1074 : Int).toNat:=⟨_,rfl⟩;have ht2 : t = 1074:=ht;rw [← ht] at a1;clear a2 a3 hw ht;have h1 : top2 * B * 2 ^ t ≤ A * 2 ^ t:=Nat.mul_le_mul_right _ h
   have h2 : top2 * 2 ^ t < 9007199254740992 * 2 ^ j:=by
    apply Nat.lt_of_mul_lt_mul_right (a:=B);have h7 : top2 * 2 ^ t * B = top2 * B * 2 ^ t:=Nat.mul_right_comm _ _ _;(have h8 : 9007199254740992 * (B * 2 ^ j) = 9007199254740992 * 2 ^ j * B:=by rw [Nat.mul_comm B,Nat.mul_assoc]);rw [h7,← h8];exact Nat.lt_of_le_of_lt h1 a1
   (have h4 : 9007199254740992 * 2 ^ j = 2 ^ (53 + j):=by rw [Nat.pow_add]);rw [ZlO,h4] at h2;have h5:=(Nat.pow_lt_pow_iff_right (show 1 < 2 by omega)).1 h2;omega
  ·exact hj
 have hr : 4503599627370496 ≤ rneQ (A * 2 ^ (0 + 1074 : Int).toNat) (B * 2 ^ j):=Zjo (Nat.mul_pos hB (Nat.pow_pos (by omega))) (a2 (by omega));rw [Nat.min_eq_right (inf_le j _ hr hj)] at a3;rw [← a3];exact hw
end Go.Proofs.YtfoekmfpcahmiabGreatDoor.PN
