/- This session's text, made small by mini.py. No condition beyond those typed. -/
import Derived.Test.YtfoekmfpcahmiabGreatDoorSQK5
import Derived.Test.YtfoekmfpcahmiabGreatDoorSQPureNearText
namespace Go.Proofs.YtfoekmfpcahmiabGreatDoor.SF
open Go.RowKit YtfoekmfpcahmiabGreatDoorW.PrintWords CB CQ PN
open Go.Proofs.YtfoekmfpcahmiabGreatDoor.Pure (decT decN isDg valD Zcd Zcm)
theorem Zfy (l : List UInt8) : num l = valD l:=by
 unfold num valD
 congr 1
 funext a c
 rw [Nat.mul_comm]
def Zbl (f : ByteArray) (E : Int) : ByteArray:=(f ++ (⟨#[101]⟩ : ByteArray)) ++ decT E
theorem Zh6 (f : ByteArray) (E : Int) : (Zbl f E).data.toList = f.data.toList ++ 101 :: (decT E).data.toList:=by
 unfold Zbl;rw [Pure.Zcj,Pure.Zcj,List.append_assoc];rfl
theorem ZnH {s : ByteArray} {l m : List UInt8} (hs : s.data.toList = l ++ m) (k : Nat) (h : k < s.size) (hk : k < l.length) : l[k]? = some s[k]:=by
 rw [← byte_at s k h,hs,List.getElem?_append_left hk]
theorem ZeV {s : ByteArray} {l m : List UInt8} (hs : s.data.toList = l ++ m) (k : Nat) (h : k < s.size) (hk : l.length ≤ k) : m[k - l.length]? = some s[k]:=by
 rw [← byte_at s k h,hs,List.getElem?_append_right hk]
theorem Zl4 {s : ByteArray} {l : List UInt8} (hs : s.data.toList = l) : s.size = l.length:=by
 rw [← hs];simp
theorem dec_neg (v : Nat) (h : v ≠ 0) : (decT (-(v : Int))).data.toList = 45 :: (decN v).data.toList:=by
 have h1:=Pure.ZeP (-(v : Int)) (by omega);have h2:=Pure.ZeP (v : Int) (by omega);rw [decide_eq_true (by omega),Int.natAbs_neg,Int.natAbs_natCast] at h1;rw [decide_eq_false (by omega),Int.natAbs_natCast] at h2;have e1 : Pure.sgn true (Pure.dgs v ⟨#[]⟩) = ⟨#[45]⟩ ++ Pure.dgs v ⟨#[]⟩:=if_pos rfl;have e2 : Pure.sgn false (Pure.dgs v ⟨#[]⟩) = Pure.dgs v ⟨#[]⟩:=if_neg (by decide);rw [e1] at h1;rw [e2] at h2;show (decT (-(v : Int))).data.toList = 45 :: (decT (v : Int)).data.toList;rw [h1,h2,Pure.Zcj];rfl
structure Figs (f : ByteArray) (E : Int) : Prop where mk ::
 n1 : 1 ≤ f.size
 n2 : f.size ≤ 60
 dig : ∀ b ∈ f.data.toList,isDg b
 e1 : -500 ≤ E
 e2 : E ≤ 500
theorem ZfL {f : ByteArray} {v : Nat} (h : Figs f (v : Int)) :
  f.size + 1 < (Zbl f v).size ∧ (Zbl f v).size ≤ f.size + 4 ∧ (∀ k (hk : k < (Zbl f v).size),k < f.size → f.data.toList[k]? = some (Zbl f v)[k] ∧ 48 ≤ (Zbl f v)[k].toNat ∧ (Zbl f v)[k].toNat ≤ 57) ∧ (∀ hk : f.size < (Zbl f v).size,(Zbl f v)[f.size].toNat = 101) ∧
  (∀ k (hk : k < (Zbl f v).size),f.size + 1 ≤ k → 48 ≤ (Zbl f v)[k].toNat ∧ (Zbl f v)[k].toNat ≤ 57) ∧ (Zbl f v).data.toList.take f.size = f.data.toList ∧ num ((Zbl f v).data.toList.drop (f.size + 1)) = v:=by
 (have hl : f.data.toList.length = f.size:=by simp);have hd:=Zh6 f (v : Int);have hz:=Zl4 hd;have hdn : (decT (v : Int)) = decN v:=rfl;rw [hdn] at hd hz;have hdg:=Pure.ZjL v;have h1:=Pure.Zkw v;have h2:=(Pure.ZiT v 3 (by omega)).2 (by have:=h.e2;omega);(have hls : (decN v).data.toList.length = (decN v).size:=by simp);rw [List.length_append,List.length_cons,hl,hls] at hz;refine ⟨by omega,by omega,fun k hk hkn => ?_,fun hk => ?_,fun k hk hkn => ?_,?_,?_⟩
 ·have:=ZnH hd k hk (by omega);exact ⟨this,h.dig _ (List.mem_of_getElem? this)⟩
 ·have:=ZeV hd f.size hk (by omega);rw [hl,Nat.sub_self] at this;rw [← Option.some.inj this];rfl
 ·have:=ZeV hd k hk (by omega);rw [hl,show k - f.size = (k - (f.size + 1)) + 1 by omega,List.getElem?_cons_succ] at this;exact hdg _ (List.mem_of_getElem? this)
 ·rw [hd,List.take_left' hl]
 ·rw [hd,← hl,List.drop_append,List.drop_of_length_le (by omega),Nat.add_sub_cancel_left,List.nil_append,List.drop_succ_cons,List.drop_zero,Zfy,Pure.ZfH]
theorem ZeX {f : ByteArray} {v : Nat} (hv : v ≠ 0) (h : Figs f (-(v : Int))) :
  f.size + 2 < (Zbl f (-(v : Int))).size ∧ (Zbl f (-(v : Int))).size ≤ f.size + 5 ∧ (∀ k (hk : k < (Zbl f (-(v : Int))).size),k < f.size → f.data.toList[k]? = some (Zbl f (-(v : Int)))[k] ∧ 48 ≤ (Zbl f (-(v : Int)))[k].toNat ∧ (Zbl f (-(v : Int)))[k].toNat ≤ 57) ∧ (∀ hk : f.size < (Zbl f (-(v : Int))).size,(Zbl f (-(v : Int)))[f.size].toNat = 101) ∧
  (∀ hk : f.size + 1 < (Zbl f (-(v : Int))).size,(Zbl f (-(v : Int)))[f.size + 1].toNat = 45) ∧
  (∀ k (hk : k < (Zbl f (-(v : Int))).size),f.size + 2 ≤ k → 48 ≤ (Zbl f (-(v : Int)))[k].toNat ∧ (Zbl f (-(v : Int)))[k].toNat ≤ 57) ∧ (Zbl f (-(v : Int))).data.toList.take f.size = f.data.toList ∧ num ((Zbl f (-(v : Int))).data.toList.drop (f.size + 2)) = v:=by
 (have hl : f.data.toList.length = f.size:=by simp);have hd:=Zh6 f (-(v : Int));have hz:=Zl4 hd;rw [dec_neg v hv] at hd hz;have hdg:=Pure.ZjL v;have h1:=Pure.Zkw v;have h2:=(Pure.ZiT v 3 (by omega)).2 (by have:=h.e1;omega);(have hls : (decN v).data.toList.length = (decN v).size:=by simp);rw [List.length_append,List.length_cons,List.length_cons,hl,hls] at hz;refine ⟨by omega,by omega,fun k hk hkn => ?_,fun hk => ?_,fun hk => ?_,fun k hk hkn => ?_,?_,?_⟩
 ·have:=ZnH hd k hk (by omega);exact ⟨this,h.dig _ (List.mem_of_getElem? this)⟩
 ·have:=ZeV hd f.size hk (by omega);rw [hl,Nat.sub_self] at this;rw [← Option.some.inj this];rfl
 ·have:=ZeV hd (f.size + 1) hk (by omega);rw [hl,show f.size + 1 - f.size = 1 by omega] at this;rw [← Option.some.inj this];rfl
 ·have:=ZeV hd k hk (by omega);rw [hl,show k - f.size = (k - (f.size + 2)) + 1 + 1 by omega,List.getElem?_cons_succ,List.getElem?_cons_succ] at this;exact hdg _ (List.mem_of_getElem? this)
 ·rw [hd,List.take_left' hl]
 ·rw [hd,← hl,List.drop_append,List.drop_of_length_le (by omega),Nat.add_sub_cancel_left,List.nil_append,List.drop_succ_cons,List.drop_succ_cons,List.drop_zero,Zfy,Pure.ZfH]
theorem ZkS (f : ByteArray) (E : Int) (w : World) (B : Nat) (hB : B ≤ w.heap.size) (ht : Tabs w B) (h : Figs f E) (h0 : bt f 0 ≠ 48) :
  Calls Tryz.prog 106 #[.string (Zbl f E)] w fun e w' => (∃ (x : Nat) (er : Value),e = .returned (.tuple #[.float .f64 x,.int .i64 (Zbl f E).size,er]) ∧ Zgw er ∧ ZbB (valD f.data.toList * 10 ^ E.toNat) (10 ^ (-E).toNat) 0 x) ∧ Below w.heap.size w w':=by
 have hf0:=ZdN f 0 h.n1;have hf1 : f.data.toList[0]? = some (f.data.toList[0]'(by have:=h.n1;rw [Array.length_toList];exact this)):=List.getElem?_eq_getElem _;rcases Int.lt_or_le E 0 with hE | hE
 ·obtain ⟨v,rfl⟩ : ∃ v : Nat,E = -(v : Int):=⟨E.natAbs,by omega⟩;obtain ⟨t1,t2,t3,t4,t5,t6,t7,t8⟩:=ZeX (by omega) h;have hn1:=h.n1
  have hfirst : (Zbl f (-(v : Int)))[0].toNat ≠ 48:=by
   have:=(t3 0 (by omega) (by omega)).1;rw [hf1] at this;rw [← Option.some.inj this];intro hh;rw [hh] at hf0;exact h0 hf0
  have hc:=Zi4 (Zbl f (-(v : Int))) f.size v w B hB ht h.n1 h.n2 t1 t2 (fun k hk hkn => (t3 k hk hkn).2) hfirst (t4 _) (t5 _) t6 t8 (by have:=h.e1;omega);rw [t7,Zfy] at hc;exact hc
 ·obtain ⟨v,rfl⟩ : ∃ v : Nat,E = (v : Int):=⟨E.toNat,by omega⟩;obtain ⟨t1,t2,t3,t4,t6,t7,t8⟩:=ZfL h;have hn1:=h.n1
  have hfirst : (Zbl f (v : Int))[0].toNat ≠ 48:=by
   have:=(t3 0 (by omega) (by omega)).1;rw [hf1] at this;rw [← Option.some.inj this];intro hh;rw [hh] at hf0;exact h0 hf0
  have hc:=ZjW (Zbl f (v : Int)) f.size v w B hB ht h.n1 h.n2 t1 t2 (fun k hk hkn => (t3 k hk hkn).2) hfirst (t4 _) t6 t8 (by have:=h.e2;omega);rw [t7,Zfy] at hc;exact hc
theorem ZlT (f : ByteArray) (E : Int) (w : World) (B : Nat) (ht : Tabs w B) (h : Figs f E) (h0 : bt f 0 = 48) (h1 : f.size = 1) :
  Calls Tryz.prog 106 #[.string (Zbl f E)] w fun e w' => e = .returned (.tuple #[.float .f64 0,.int .i64 (Zbl f E).size,.nilIface]) ∧ Below w.heap.size w w':=by
 have hf0:=ZdN f 0 h.n1;have hf1 : f.data.toList[0]? = some (f.data.toList[0]'(by have:=h.n1;rw [Array.length_toList];exact this)):=List.getElem?_eq_getElem _;rcases Int.lt_or_le E 0 with hE | hE
 ·obtain ⟨v,rfl⟩ : ∃ v : Nat,E = -(v : Int):=⟨E.natAbs,by omega⟩;obtain ⟨t1,t2,t3,t4,t5,t6,t7,t8⟩:=ZeX (by omega) h;rw [h1] at t1 t2
  have hfirst : (Zbl f (-(v : Int)))[0].toNat = 48:=by
   have:=(t3 0 (by omega) (by omega)).1;rw [hf1] at this;rw [← Option.some.inj this];have h48:=hf0.symm.trans h0;omega
  (have he : (Zbl f (-(v : Int)))[1].toNat = 101:=by have:=t4 (by omega);simpa only [h1] using this);(have hneg : (Zbl f (-(v : Int)))[2].toNat = 45:=by have:=t5 (by omega);simpa only [h1] using this);refine Zgt _ w (fun W => ZcJ _ W (by omega) (by omega) (by omega) (by omega)) (fun W => Zd2 _ W t1 t2 hfirst he hneg (fun k hk hkn => t6 k hk (by omega))) ht.opt
 ·obtain ⟨v,rfl⟩ : ∃ v : Nat,E = (v : Int):=⟨E.toNat,by omega⟩;obtain ⟨t1,t2,t3,t4,t6,t7,t8⟩:=ZfL h;rw [h1] at t1 t2
  have hfirst : (Zbl f (v : Int))[0].toNat = 48:=by
   have:=(t3 0 (by omega) (by omega)).1;rw [hf1] at this;rw [← Option.some.inj this];have h48:=hf0.symm.trans h0;omega
  (have he : (Zbl f (v : Int))[1].toNat = 101:=by have:=t4 (by omega);simpa only [h1] using this);refine Zgt _ w (fun W => ZcJ _ W (by omega) (by omega) (by omega) (by omega)) (fun W => Zei _ W t1 t2 hfirst he (fun k hk hkn => t6 k hk (by omega))) ht.opt
open Go.Proofs.YtfoekmfpcahmiabGreatDoor.Pure (decT decN isDg valD Zcd Zcm)
structure Home (w : World) (B : Nat) : Prop where mk ::
 tabs : Tabs w B
 eblk : 1 < B
 err : ∃ ev,w.cell? ⟨1,0,none⟩ = some ev ∧ (ev = .nilIface ∨ ∃ te pe,ev = .iface te pe)
theorem Home.below {w w' : World} {B : Nat} (h : Home w B) (hb : Below B w w') : Home w' B:=by
 obtain ⟨ev,h1,h2⟩:=h.err;exact ⟨h.tabs.below hb,h.eblk,ev,(hb.cell (p:=⟨_,0,none⟩) h.eblk).trans h1,h2⟩
structure Zlw (f : ByteArray) (E : Int) (x : Nat) : Prop where mk ::
 le : x ≤ 9218868437227405312
 zero : bt f 0 = 48 → x = 0
 near : bt f 0 ≠ 48 → ZbB (valD f.data.toList * 10 ^ E.toNat) (10 ^ (-E).toNat) 0 x
theorem Zh5 {f : ByteArray} {E : Int} (hfig : Figs f E) : (Zbl f E).size ≤ 1000:=by
 have:=hfig.n2;rcases Int.lt_or_le E 0 with h | h
 ·obtain ⟨v,rfl⟩ : ∃ v : Nat,E = -(v : Int):=⟨E.natAbs,by omega⟩;have:=(ZeX (by omega) hfig).2.1;omega
 ·obtain ⟨v,rfl⟩ : ∃ v : Nat,E = (v : Int):=⟨E.toNat,by omega⟩;have:=(ZfL hfig).2.1;omega
theorem Zk9 (f : ByteArray) (E : Int) (w : World) (B : Nat) (hB : B ≤ w.heap.size) (hh : Home w B) (hf : Zcd f = true) (h60 : f.size ≤ 60) (hE : -500 ≤ E ∧ E ≤ 500) :
  Calls Tryz.prog 64 #[.string (Zbl f E),.int .i64 64] w fun e w' => (∃ (x : Nat) (er : Value),e = .returned (.tuple #[.float .f64 x,er]) ∧ Zlw f E x) ∧ Below w.heap.size w w':=by
 obtain ⟨k1,k2,k3,k4⟩:=Pure.ZcR f hf;have hfig : Figs f E:=⟨k1,h60,k3,hE.1,hE.2⟩;obtain ⟨ev,hv,hev⟩:=hh.err;have hsz:=Zh5 hfig;refine ZgD (Zbl f E) w (Zlw f E) ev hsz (Nat.lt_of_lt_of_le hh.eblk hB) hv hev ?_;refine Zhv (Zbl f E) w (fun x er => Zgw er ∧ Zlw f E x) ?_;refine Ze8 (Zbl f E) w (fun x er => Zgw er ∧ Zlw f E x) ?_;by_cases h0 : bt f 0 = 48
 ·have h1 : f.size = 1:=by
   have : ¬ 1 < f.size:=fun h => k4 ⟨h0,h⟩;omega
  refine (ZlT f E w B hh.tabs hfig h0 h1).mono ?_;rintro e w' ⟨rfl,hb⟩;exact ⟨⟨0,_,rfl,.inl rfl,⟨by omega,fun _ => rfl,fun h => absurd h0 h⟩⟩,hb⟩
 ·refine (ZkS f E w B hB hh.tabs hfig h0).mono ?_;rintro e w' ⟨⟨x,er,rfl,he,hx⟩,hb⟩;exact ⟨⟨x,er,rfl,he,⟨ZeJ hx,fun h => absurd h h0,fun _ => hx⟩⟩,hb⟩
theorem ZiC (f : ByteArray) (E : Int) (w : World) (B : Nat) (hB : B ≤ w.heap.size) (hh : Home w B) (hf : Zcd f = true) (h60 : f.size ≤ 60) (hE1 : -500 ≤ E) (hE2 : E ≤ 500) :
  Calls Tryz.prog 49 #[.string f,.int .i64 E] w fun e w' => (∃ x : Nat,e = .returned (.int .u64 x) ∧ Zlw f E x) ∧ Below w.heap.size w w':=by
 obtain ⟨k,hk⟩:=(Pure.Zkp f (by omega)).rounds;obtain ⟨k2,hk2⟩:=(Pure.Zoz E (by omega) (by omega)).rounds;have hfo:=fun W => MNearest.Zb3.calls k f true W (by rw [← hf];exact hk);have hwi:=fun W => MNearest.Zax.calls E (-500) 500 true W (by rw [Pure.ZhH E (-500) 500,decide_eq_true ⟨hE1,hE2⟩]);have hde:=fun W => MNearest.ZaV.calls k2 E (decT E) W hk2;have HFO:=Lib.hid hfo;have HWI:=Lib.hid hwi;have HDE:=Lib.hid hde
 have hpa : ∀ W,Below w.heap.size w W → Calls Tryz.prog 64 #[.string ((f ++ (⟨#[101]⟩ : ByteArray)) ++ decT E),.int .i64 64] W fun e w' => (∃ (x : Nat) (er : Value),e = .returned (.tuple #[.float .f64 x,er]) ∧ Zlw f E x) ∧ Below W.heap.size W w' :=
  fun W hb => Zk9 f E W B (Nat.le_trans hB hb.size) (hh.below (hb.mono hB)) hf h60 ⟨hE1,hE2⟩
 have HPA:=Lib.hid hpa;have HWO:=Lib.hid ZkJ
 have hlim : ¬ 9223372036854775807 < f.size + 1 + (decT E).size:=by
  obtain ⟨k1,_,k3,_⟩:=Pure.ZcR f hf;have h1:=Zh5 (f:=f) (E:=E) ⟨k1,h60,k3,hE1,hE2⟩;(have h2 : (Zbl f E).size = f.size + 1 + (decT E).size:=by unfold Zbl;rw [ByteArray.size_append,ByteArray.size_append];rfl);omega
 have c0 : decide ((f.size : Int) > 60) = false:=decide_eq_false (by omega);clear hfo hwi hde hk hk2 hpa hh hf;go_enter Tryz.func49,Tryz.ntmps49;go_wp2_with (first | (go_at_call 63;((with_reducible refine (HFO.out _).mono ?_);rintro e w' ⟨rfl,⟨n1,rfl⟩⟩)) | (go_at_call 46;((with_reducible refine (HWI.out _).mono ?_);rintro e w' ⟨rfl,⟨n2,rfl⟩⟩)) | (go_at_call 65;((with_reducible refine (HDE.out _).mono ?_);rintro e w' ⟨rfl,hb0⟩;have hb : Below w.heap.size w w':=(Zac (Below.refl _ _) _).trans hb0)) | (go_at_call 64;((with_reducible refine (HPA.out _ hb).mono ?_);rintro e w' ⟨⟨x,er,rfl,hx⟩,hb2⟩)) | (go_at_call 66;((with_reducible refine (HWO.out _ _ hx.le).mono ?_);rintro e w' ⟨rfl,rfl⟩)))
 all_goals go_ret
 all_goals exact ⟨⟨x,rfl,hx⟩,hb.trans (hb2.mono hb.size)⟩
theorem Zjw (f : ByteArray) (E : Int) (w : World) (hs : f.size ≤ 140737488351232) (hbad : Zcd f = false ∨ 60 < f.size ∨ E < -500 ∨ 500 < E) :
  Calls Tryz.prog 49 #[.string f,.int .i64 E] w fun e w' => e = .returned (.int .u64 0) ∧ Below w.heap.size w w':=by
 obtain ⟨k,hk⟩:=(Pure.Zkp f hs).rounds;have hfo:=fun W => MNearest.Zb3.calls k f _ W hk;have HFO:=Lib.hid hfo;clear hfo hk
 cases hf : Zcd f with
 | false =>
  rw [hf] at HFO;clear hbad;go_enter Tryz.func49,Tryz.ntmps49;go_wp2_with (first | (go_at_call 63;((with_reducible refine (HFO.out _).mono ?_);rintro e w' ⟨rfl,⟨n1,rfl⟩⟩)))
  all_goals go_ret
  all_goals exact ⟨rfl,Zac (Below.refl _ _) _⟩
 | true =>
  rw [hf] at HFO;rcases Nat.lt_or_ge 60 f.size with h60 | h60
  ·have c0 : decide ((f.size : Int) > 60) = true:=decide_eq_true (by omega);clear hbad;go_enter Tryz.func49,Tryz.ntmps49;go_wp2_with (first | (go_at_call 63;((with_reducible refine (HFO.out _).mono ?_);rintro e w' ⟨rfl,⟨n1,rfl⟩⟩)))
   all_goals go_ret
   all_goals exact ⟨rfl,Zac (Below.refl _ _) _⟩
  ·have c0 : decide ((f.size : Int) > 60) = false:=decide_eq_false (by omega)
   have hwi:=fun W => MNearest.Zax.calls E (-500) 500 false W (by
    rw [Pure.ZhH E (-500) 500,decide_eq_false];intro hh;rcases hbad with h | h | h | h
    ·rw [hf] at h;cases h
    ·omega
    ·omega
    ·omega)
   have HWI:=Lib.hid hwi;clear hbad hwi;go_enter Tryz.func49,Tryz.ntmps49;go_wp2_with (first | (go_at_call 63;((with_reducible refine (HFO.out _).mono ?_);rintro e w' ⟨rfl,⟨n1,rfl⟩⟩)) | (go_at_call 46;((with_reducible refine (HWI.out _).mono ?_);rintro e w' ⟨rfl,⟨n2,rfl⟩⟩)))
   all_goals go_ret
   all_goals exact ⟨rfl,Zac (Below.refl _ _) _⟩
theorem ZiB (f : ByteArray) (E : Int) (w : World) (B : Nat) (hB : B ≤ w.heap.size) (hh : Home w B) (hs : f.size ≤ 140737488351232) (x : Nat) (h0 : Zcm f E = false → x = 0) (h1 : Zcm f E = true → ZbB (valD f.data.toList * 10 ^ E.toNat) (10 ^ (-E).toNat) 0 x) :
  Calls Tryz.prog 49 #[.string f,.int .i64 E] w fun e w' => e = .returned (.int .u64 x) ∧ Below w.heap.size w w':=by
 by_cases hok : Zcd f = true ∧ f.size ≤ 60 ∧ -500 ≤ E ∧ E ≤ 500
 ·obtain ⟨a1,a2,a3,a4⟩:=hok;refine (ZiC f E w B hB hh a1 a2 a3 a4).mono ?_;rintro e w' ⟨⟨y,rfl,hy⟩,hb⟩
  have hxy : y = x:=by
   by_cases h48 : bt f 0 = 48
   ·rw [hy.zero h48,h0 (by unfold Zcm;rw [decide_eq_true h48];simp)]
   ·exact ZdF (hy.near h48) (h1 (by unfold Zcm;rw [a1,decide_eq_true a2,decide_eq_true ⟨a3,a4⟩,decide_eq_false h48];rfl))
  exact ⟨by rw [hxy],hb⟩
 ·have hbad : Zcd f = false ∨ 60 < f.size ∨ E < -500 ∨ 500 < E:=by
   rcases hf : Zcd f with _ | _
   ·exact .inl rfl
   ·refine .inr ?_;rcases Nat.lt_or_ge 60 f.size with h | h
    ·exact .inl h
    ·refine .inr ?_;have : ¬ (-500 ≤ E ∧ E ≤ 500):=fun hh => hok ⟨hf,h,hh.1,hh.2⟩;omega
  have hx : x = 0:=h0 (by
   unfold Zcm;rcases hf : Zcd f with _ | _
   ·rfl
   ·rcases hbad with h | h | h
    ·rw [hf] at h;cases h
    ·rw [decide_eq_false (by omega : ¬ f.size ≤ 60)];rfl
    ·rw [decide_eq_false (by omega : ¬ (-500 ≤ E ∧ E ≤ 500)),Bool.and_false];rfl)
  rw [hx];exact Zjw f E w hs hbad
end Go.Proofs.YtfoekmfpcahmiabGreatDoor.SF
namespace Go.Proofs.YtfoekmfpcahmiabGreatDoor.G
open Go.RowKit YtfoekmfpcahmiabGreatDoorW.PrintWords CB CQ PN SF
open Go.Proofs.YtfoekmfpcahmiabGreatDoor.Pure (valD Zcm)
structure ZgJ (w : World) : Prop where mk ::
 out : ∃ B,B ≤ w.heap.size ∧ Home w B
theorem ZgJ.below {w w' : World} (h : ZgJ w) (hb : Below w.heap.size w w') : ZgJ w':=by
 obtain ⟨B,h1,h2⟩:=h.out;exact ⟨B,Nat.le_trans h1 hb.size,h2.below (hb.mono h1)⟩
theorem Zjy (s : ByteArray) (E : Int) : ∃ w : Nat,(Zcm s E = false → w = 0) ∧ (Zcm s E = true → ZbB (valD s.data.toList * 10 ^ E.toNat) (10 ^ (-E).toNat) 0 w):=by
 cases h : Zcm s E with
 | false => exact ⟨0,fun _ => rfl,fun h => by cases h⟩
 | true =>
  obtain ⟨w,hw⟩:=Zc4 (A:=valD s.data.toList * 10 ^ E.toNat) (B:=10 ^ (-E).toNat) (Nat.pow_pos (by omega));exact ⟨w,fun h => (by cases h),fun _ => hw⟩
noncomputable def ZgG (s : ByteArray) (E : Int) : Nat:=Classical.choose (Zjy s E)
theorem ZmM {s : ByteArray} {E : Int} (h : Zcm s E = false) : ZgG s E = 0:=(Classical.choose_spec (Zjy s E)).1 h
theorem Zld {s : ByteArray} {E : Int} (h : Zcm s E = true) : ZbB (valD s.data.toList * 10 ^ E.toNat) (10 ^ (-E).toNat) 0 (ZgG s E):=(Classical.choose_spec (Zjy s E)).2 h
noncomputable def Zbo (s : ByteArray) (E : Int) : Option Int:=if s.size ≤ 140737488351232 then some ((ZgG s E : Nat) : Int) else none
theorem ZeM (a0 : ByteArray) (a1 r : Int) (w : World) (hm : ZgJ w) (h : Zbo a0 a1 = some r) :
  Calls Tryz.prog 49 #[.string a0,.int .i64 a1] w fun e w' => e = .returned (.int .u64 r) ∧ Below w.heap.size w w':=by
 unfold Zbo at h;split at h
 ·rename_i hs
  obtain ⟨B,h1,h2⟩:=hm.out;rw [← Option.some.inj h];exact ZiB a0 a1 w B h1 h2 hs (ZgG a0 a1) ZmM Zld
 ·cases h
end Go.Proofs.YtfoekmfpcahmiabGreatDoor.G
