/- What the program's Nearest takes, and the texts of figures and exponents. -/
import Derived.Test.YtfoekmfpcahmiabGreatDoorSQMFnNearest
import Derived.Test.YtfoekmfpcahmiabGreatDoorSQK1
namespace Go.Proofs.YtfoekmfpcahmiabGreatDoor.Pure
open Go.RowKit Go.Proofs.YtfoekmfpcahmiabGreatDoor.MNearest Go.Proofs.YtfoekmfpcahmiabGreatDoorW.PrintWords Go.Proofs.YtfoekmfpcahmiabGreatDoorW.PrintLast Go.Proofs.YtfoekmfpcahmiabGreatDoor.CB
def dgs (m : Nat) (s : ByteArray) : ByteArray:=if m = 0 then s else dgs (m / 10) (strOfNums [48 + ((m % 10 : Nat) : Int)] ++ s)
termination_by m
decreasing_by omega
theorem Zcw (s : ByteArray) : dgs 0 s = s:=by rw [dgs];rfl
theorem Zdr (m : Nat) (s : ByteArray) (h : m ≠ 0) : dgs m s = dgs (m / 10) (strOfNums [48 + ((m % 10 : Nat) : Int)] ++ s):=by rw [dgs,if_neg h]
def decT (n : Int) : ByteArray:=if n = 0 then ⟨#[48]⟩ else if n < 0 then ⟨#[45]⟩ ++ dgs n.natAbs ⟨#[]⟩ else dgs n.natAbs ⟨#[]⟩
def sgn (b : Bool) (s : ByteArray) : ByteArray:=if b = true then ⟨#[45]⟩ ++ s else s
theorem ZeP (n : Int) (h : n ≠ 0) : decT n = sgn (decide (n < 0)) (dgs n.natAbs ⟨#[]⟩):=by
 unfold decT sgn;rw [if_neg h];by_cases h1 : n < 0 <;> simp [h1]
theorem ZhK : ∀ (d m : Nat) (s : ByteArray),m < 10 ^ d → (dgs m s).size ≤ s.size + d:=by
  intro d
  induction d with
  | zero => intro m s h; obtain rfl : m = 0 := by omega
            rw [Zcw];omega
  | succ d ih =>
    intro m s h;by_cases h0 : m = 0
    · subst h0;rw [Zcw];omega
    · rw [Zdr m s h0];have:=ih (m / 10) (strOfNums [48 + ((m % 10 : Nat) : Int)] ++ s) (by rw [Nat.pow_succ] at h;omega);rw [ByteArray.size_append,Zch] at this;simp only [List.length_cons,List.length_nil] at this;omega
theorem ZlV (b : Bool) (m : Nat) : Int.tdiv (if b then -(m : Int) else m) 10 = if b then -((m / 10 : Nat) : Int) else ((m / 10 : Nat) : Int):=by
 cases b with
 | false => simp only [Bool.false_eq_true,if_false];rw [Zh9 (Int.natCast_nonneg m)];rfl
 | true => simp only [if_true];rw [Int.neg_tdiv,Zh9 (Int.natCast_nonneg m)];rfl
theorem ZlQ (b : Bool) (m : Nat) : Int.tmod (if b then -(m : Int) else m) 10 = if b then -((m % 10 : Nat) : Int) else ((m % 10 : Nat) : Int):=by
 cases b with
 | false => simp only [Bool.false_eq_true,if_false];rw [ZgB (Int.natCast_nonneg m)];rfl
 | true => simp only [if_true];rw [Int.neg_tmod,ZgB (Int.natCast_nonneg m)];rfl
theorem ZfY (n : Int) : n = if decide (n < 0) then -(n.natAbs : Int) else (n.natAbs : Int):=by
 by_cases h : n < 0
 ·rw [decide_eq_true h];simp only [if_true];omega
 ·rw [decide_eq_false h];simp only [Bool.false_eq_true,if_false];omega
theorem Zb0 {a b : ByteArray} (h : a.data.toList = b.data.toList) : a = b:=by
 cases a;cases b;congr;exact Array.toList_inj.mp h
theorem Zcj (a b : ByteArray) : (a ++ b).data.toList = a.data.toList ++ b.data.toList:=by simp
def digB (s : ByteArray) (i : Nat) : Bool:=decide (∀ j : Nat,j < s.size → i ≤ j → 48 ≤ bt s j ∧ bt s j ≤ 57)
theorem Zkv (s : ByteArray) (i : Nat) (h : s.size ≤ i) : digB s i = true:=by
 unfold digB;exact decide_eq_true (fun j h1 h2 => by omega)
theorem ZjK (s : ByteArray) (i : Nat) (h : i < s.size) (hb : bt s i < 48 ∨ bt s i > 57) : digB s i = false:=by
 unfold digB;refine decide_eq_false (fun H => ?_);have:=H i h (Nat.le_refl _);omega
theorem Zku (s : ByteArray) (i : Nat) (hb : 48 ≤ bt s i ∧ bt s i ≤ 57) : digB s i = digB s (i + 1):=by
 unfold digB;rw [decide_eq_decide];constructor
 ·exact fun H j h1 h2 => H j h1 (by omega)
 ·intro H j h1 h2;rcases Nat.eq_or_lt_of_le h2 with e | e
  ·subst e;exact hb
  ·exact H j h1 e
def Zcd (s : ByteArray) : Bool:=decide (1 ≤ s.size ∧ s.size ≤ 800) && digB s 0 && !(bt s 0 == 48 && decide (1 < s.size))
def dgL (m : Nat) : List UInt8:=(dgs m ⟨#[]⟩).data.toList
theorem Znn (m : Nat) : ∀ s : ByteArray,(dgs m s).data.toList = dgL m ++ s.data.toList:=by
 induction m using Nat.strongRecOn with
 | _ m ih =>
  intro s;by_cases h : m = 0
  ·subst h;unfold dgL;rw [Zcw,Zcw];rfl
  ·unfold dgL;rw [Zdr m s h,Zdr m ⟨#[]⟩ h,ih (m / 10) (by omega),ih (m / 10) (by omega),Zcj,Zcj,List.append_assoc];simp
theorem ZfD : dgL 0 = []:=by unfold dgL;rw [Zcw]
theorem ZhN (m : Nat) (h : m ≠ 0) : dgL m = dgL (m / 10) ++ [UInt8.ofNat (48 + m % 10)]:=by
 unfold dgL;rw [Zdr m _ h,Znn];unfold dgL
 congr 1
def valD : List UInt8 → Nat:=List.foldl (fun n b => 10 * n + (b.toNat - 48)) 0
theorem Zdy (l : List UInt8) (b : UInt8) : valD (l ++ [b]) = 10 * valD l + (b.toNat - 48):=by unfold valD;rw [List.foldl_append];rfl
def isDg (b : UInt8) : Prop:=48 ≤ b.toNat ∧ b.toNat ≤ 57
theorem ZgV {P : List UInt8 → Prop} (h0 : P []) (h1 : ∀ l b,P l → P (l ++ [b])) : ∀ l,P l:=by
 intro l
 have : ∀ n (l : List UInt8),l.length = n → P l:=by
  intro n
  induction n with
  | zero => intro l hl;rw [List.length_eq_zero_iff] at hl;rw [hl];exact h0
  | succ n ih =>
   intro l hl;(have hne : l ≠ []:=by intro h;rw [h] at hl;simp at hl);rw [← List.dropLast_concat_getLast hne];exact h1 _ _ (ih _ (by simp;omega))
 exact this l.length l rfl
theorem Zhk : ∀ l : List UInt8,(∀ b ∈ l,isDg b) → valD l < 10 ^ l.length:=by
 refine ZgV (fun _ => by simp [valD]) ?_;intro l b ih h;have h1:=ih (fun c hc => h c (by simp [hc]));have h2:=h b (by simp);rw [Zdy,List.length_append,List.length_singleton,Nat.pow_succ];unfold isDg at h2;omega
theorem ZoG : ∀ l : List UInt8,(∀ b ∈ l,isDg b) → (∀ b,l.head? = some b → b.toNat ≠ 48) → dgL (valD l) = l:=by
 refine ZgV (fun _ _ => by simp [valD,ZfD]) ?_;intro l b ih h hh;have h2:=h b (by simp);unfold isDg at h2
 have hpos : valD (l ++ [b]) ≠ 0:=by
  rw [Zdy]
  cases l with
  | nil => have:=hh b (by simp);simp [valD];omega
  | cons c l =>
   have hc:=hh c (by simp);have hd:=h c (by simp);unfold isDg at hd
   have hge : ∀ (l : List UInt8) (n : Nat),n ≤ List.foldl (fun n (b : UInt8) => 10 * n + (b.toNat - 48)) n l:=by
    intro l
    induction l with
    | nil => intro n;exact Nat.le_refl n
    | cons d l ih => intro n;exact Nat.le_trans (show n ≤ 10 * n + (d.toNat - 48) by omega) (ih _)
   have:=hge l (10 * 0 + (c.toNat - 48));unfold valD;simp only [List.foldl_cons];omega
 rw [ZhN _ hpos,Zdy,show (10 * valD l + (b.toNat - 48)) / 10 = valD l by omega,show (10 * valD l + (b.toNat - 48)) % 10 = b.toNat - 48 by omega,show 48 + (b.toNat - 48) = b.toNat by omega]
 congr 1
 ·refine ih (fun c hc => h c (by simp [hc])) ?_;intro c hc
  cases l with
  | nil => simp at hc
  | cons d l => exact hh c (by simpa using hc)
 ·simp
theorem Znp : ∀ (d m : Nat),m < 10 ^ d → (dgL m).length ≤ d:=by
 intro d m h;have:=ZhK d m ⟨#[]⟩ h;(have h2 : (dgL m).length = (dgs m ⟨#[]⟩).size:=by unfold dgL;simp);rw [h2];exact Nat.le_trans this (Nat.le_of_eq (Nat.zero_add d))
theorem ZhO (n : Nat) (h : n ≠ 0) : (decT (n : Int)).data.toList = dgL n:=by
 unfold decT dgL;rw [if_neg (by omega),if_neg (by omega),Int.natAbs_natCast]
theorem Znl (s : ByteArray) : digB s 0 = true ↔ ∀ b ∈ s.data.toList,isDg b:=by
 unfold digB;rw [decide_eq_true_iff];constructor
 ·intro H b hb;obtain ⟨j,hj,rfl⟩:=List.getElem_of_mem hb;have:=H j (by simpa using hj) (by omega);rw [ZdN s j (by simpa using hj)] at this;unfold isDg;omega
 ·intro H j hj _;rw [ZdN s j hj];have:=H _ (List.getElem_mem (l:=s.data.toList) (by simpa using hj));unfold isDg at this;omega
theorem Zlt (s : ByteArray) (hd : ∀ b ∈ s.data.toList,isDg b) : (decT ((valD s.data.toList : Nat) : Int)).toList = s.toList ↔ (1 ≤ s.size ∧ ¬ (bt s 0 = 48 ∧ 1 < s.size)):=by
 rw [ByteArray.toList_eq,ByteArray.toList_eq];(have hlen : s.data.toList.length = s.size:=by simp);rcases hl : s.data.toList with _ | ⟨b,l⟩
 ·rw [hl] at hlen;simp at hlen;constructor
  ·intro h;exact absurd h (by simp [valD,decT])
  ·intro h;omega
 ·rw [hl] at hlen hd
  have hb : bt s 0 = (b.toNat : Int):=by
   have:=ZdN s 0 (by simp at hlen;omega);simp only [hl,List.getElem_cons_zero] at this;exact this
  simp only [List.length_cons] at hlen;by_cases h0 : b.toNat = 48
  ·by_cases h1 : l = []
   ·subst h1;(have hv : valD [b] = 0:=by simp [valD,h0]);rw [hv];constructor
    ·intro _;simp at hlen;omega
    ·intro _;show [(48 : UInt8)] = [b]
     congr 1
     exact UInt8.toNat_inj.mp h0.symm
   ·have hl1 : 1 ≤ l.length:=by
     rcases l with _ | ⟨_,_⟩
     ·exact absurd rfl h1
     ·simp
    constructor
    ·intro h;exfalso;(have hv : valD (b :: l) = valD l:=by unfold valD;simp [h0]);rw [hv] at h;have hlt:=Zhk l (fun c hc => hd c (by simp [hc]));by_cases hz : valD l = 0
     ·rw [hz] at h;have h4 : ([(48 : UInt8)] : List UInt8).length = (b :: l).length:=congrArg List.length h;simp only [List.length_cons,List.length_nil] at h4;omega
     ·rw [ZhO _ hz] at h;have:=congrArg List.length h;have h3:=Znp _ _ hlt;rw [List.length_cons] at this;omega
    ·intro h;omega
  ·have hb2:=hd b (by simp);unfold isDg at hb2;have hv:=ZoG (b :: l) hd (by intro c hc;simp at hc;rw [← hc];exact h0);(have hne : valD (b :: l) ≠ 0:=by intro h;rw [h,ZfD] at hv;simp at hv);rw [ZhO _ hne,hv];constructor
   ·intro _;omega
   ·intro _;rfl
def decN (v : Nat) : ByteArray:=decT (v : Int)
theorem decN_of (s : ByteArray) (hd : ∀ b ∈ s.data.toList,isDg b) (h1 : 1 ≤ s.size) (h2 : ¬ (bt s 0 = 48 ∧ 1 < s.size)) : decN (valD s.data.toList) = s:=by
 have h:=(Zlt s hd).2 ⟨h1,h2⟩;rw [ByteArray.toList_eq,ByteArray.toList_eq] at h;exact Zb0 h
theorem dgL_dg (m : Nat) : ∀ b ∈ dgL m,isDg b:=by
 induction m using Nat.strongRecOn with
 | _ m ih =>
  by_cases h : m = 0
  ·subst h;rw [ZfD];simp
  ·rw [ZhN m h];intro b hb;rcases List.mem_append.1 hb with e | e
   ·exact ih (m / 10) (by omega) b e
   ·rw [List.mem_singleton.1 e];unfold isDg;(have : (UInt8.ofNat (48 + m % 10)).toNat = 48 + m % 10:=by simp;omega);rw [this];omega
theorem ZnP (m : Nat) : valD (dgL m) = m:=by
 induction m using Nat.strongRecOn with
 | _ m ih =>
  by_cases h : m = 0
  ·subst h;rw [ZfD];rfl
  ·rw [ZhN m h,Zdy,ih (m / 10) (by omega)];(have : (UInt8.ofNat (48 + m % 10)).toNat = 48 + m % 10:=by simp;omega);rw [this];omega
theorem ZeQ (v : Nat) : (decN v).data.toList = if v = 0 then [48] else dgL v:=by
 by_cases h : v = 0
 ·subst h;rfl
 ·rw [if_neg h];exact ZhO v h
theorem ZjL (v : Nat) : ∀ b ∈ (decN v).data.toList,isDg b:=by
 rw [ZeQ];split
 ·intro b hb;simp at hb;rw [hb];exact ⟨by decide,by decide⟩
 ·exact dgL_dg v
theorem ZfH (v : Nat) : valD (decN v).data.toList = v:=by
 rw [ZeQ];split
 ·rename_i h;rw [h];rfl
 ·exact ZnP v
theorem size_data (s : ByteArray) : s.data.toList.length = s.size:=by simp
theorem Zkw (v : Nat) : 1 ≤ (decN v).size:=by
 rw [← size_data,ZeQ];split
 ·simp
 ·rename_i h;rw [ZhN v h];simp
theorem ZiT (v d : Nat) (hd : 1 ≤ d) : (decN v).size ≤ d ↔ v < 10 ^ d:=by
 constructor
 ·intro h;have h1:=Zhk _ (ZjL v);rw [ZfH,size_data] at h1;exact Nat.lt_of_lt_of_le h1 (Nat.pow_le_pow_right (by omega) h)
 ·intro h;rw [← size_data,ZeQ];split
  ·simpa using hd
  ·exact Znp d v h
theorem ZcR (s : ByteArray) (h : Zcd s = true) : 1 ≤ s.size ∧ s.size ≤ 800 ∧ (∀ b ∈ s.data.toList,isDg b) ∧ ¬ (bt s 0 = 48 ∧ 1 < s.size):=by
 unfold Zcd at h;simp at h;obtain ⟨⟨h1,h2⟩,h3⟩:=h;refine ⟨h1.1,h1.2,(Znl s).1 h2,?_⟩;intro ⟨h4,h5⟩;rcases h3 with h | h
 ·exact h h4
 ·omega
theorem Zm5 (s : ByteArray) (h : Zcd s = true) : decN (valD s.data.toList) = s:=by
 obtain ⟨h1,h2,h3,h4⟩:=ZcR s h;exact decN_of s h3 h1 h4
def Zcm (s : ByteArray) (E : Int) : Bool:=Zcd s && decide (s.size ≤ 60) && decide (-500 ≤ E ∧ E ≤ 500) && !decide (bt s 0 = 48)
theorem ZhH (a b c : Int) : Zax.f a b c = some (decide (b ≤ a ∧ a ≤ c)):=by
 unfold Zax.f;by_cases h : a ≥ b
 ·rw [if_pos h];simp;omega
 ·rw [if_neg h];simp;omega
theorem Zkq (a : Int) : ZaR.f a = some (decide (48 ≤ a ∧ a ≤ 57)):=by
 unfold ZaR.f;by_cases h : a ≥ 48
 ·rw [if_pos h];simp;omega
 ·rw [if_neg h];simp;omega
theorem ZiO (s : ByteArray) (hs : s.size ≤ 140737488351232) : ∀ (d i : Nat),s.size - i = d → Ev (fun k => ZaJ.l0 k s (s.size : Int) i) (digB s i):=by
 intro d
 induction d with
 | zero =>
  intro i hd;rw [Zkv s i (by omega)];exact Ev.step (f:=fun _ => some true) (fun k => by simp only [ZaJ.l0];rw [if_neg (by omega)]) (Ev.now _)
 | succ d ih =>
  intro i hd;by_cases h1 : 48 ≤ bt s i ∧ bt s i ≤ 57
  ·rw [Zku s i h1];exact Ev.step (fun k => by simp only [ZaJ.l0];rw [if_pos (by omega),if_pos (by omega),if_pos (by omega),Zkq];simp only [Option.bind_some];rw [if_pos (decide_eq_true h1),w64 (by omega) (by omega)];rfl) (ih (i + 1) (by omega))
  ·rw [ZjK s i (by omega) (by omega)];exact Ev.step (f:=fun _ => some false) (fun k => by simp only [ZaJ.l0];rw [if_pos (by omega),if_pos (by omega),if_pos (by omega),Zkq];simp only [Option.bind_some];rw [if_neg (by simpa using h1)]) (Ev.now _)
theorem Zm1 (s : ByteArray) (hs : s.size ≤ 140737488351232) : Ev (fun k => ZaJ.f k s) (digB s 0):=by
 unfold ZaJ.f;exact ZiO s hs s.size 0 (by omega)
theorem Zkp (s : ByteArray) (hs : s.size ≤ 140737488351232) : Ev (fun k => Zb3.f k s) (Zcd s):=by
 unfold Zb3.f;rw [ZhH];simp only [Option.bind_some];by_cases h1 : 1 ≤ s.size ∧ s.size ≤ 800
 ·have e1 : decide ((1 : Int) ≤ (s.size : Int) ∧ (s.size : Int) ≤ 800) = true:=decide_eq_true (by omega);simp only [e1,if_true];refine Ev.bind (Zm1 s hs) ?_;by_cases h2 : digB s 0 = true
  ·simp only [h2,if_true,if_pos (show (0 : Int) < (s.size : Int) by omega)];by_cases h3 : bt s 0 = 48
   ·simp only [if_pos h3]
    have e : Zcd s = ((s.size : Int) == 1):=by
     unfold Zcd;by_cases h4 : s.size = 1
     ·simp [h2,h3,h4]
     ·(have h5 : ¬ (s.size : Int) = 1:=by omega);(have h6 : 1 < s.size:=by omega);simp [h2,h3,h5,h6]
    rw [e];exact Ev.now _
   ·simp only [if_neg h3];(have e : Zcd s = true:=by unfold Zcd;simp [h2,h3,h1]);rw [e];exact Ev.now _
  ·simp only [if_neg h2];(have e : Zcd s = false:=by unfold Zcd;simp [h2]);rw [e];exact Ev.now _
 ·have e1 : decide ((1 : Int) ≤ (s.size : Int) ∧ (s.size : Int) ≤ 800) = false:=decide_eq_false (by omega);(have e : Zcd s = false:=by unfold Zcd;rw [decide_eq_false h1];rfl);simp only [e1,e];exact Ev.now _
def dgz (m : Nat) (s : ByteArray) : ByteArray:=if m = 0 then strOfNums [48] ++ s else dgs m s
theorem Znm (m : Nat) (s : ByteArray) (h : m < 10) : dgz m s = strOfNums [48 + (m : Int)] ++ s:=by
 unfold dgz;by_cases h0 : m = 0
 ·subst h0;rfl
 ·rw [if_neg h0,Zdr m s h0,show m / 10 = 0 by omega,Zcw,show m % 10 = m by omega]
theorem dgz_far (m : Nat) (s : ByteArray) (h : ¬ m < 10) : dgz m s = dgz (m / 10) (strOfNums [48 + ((m % 10 : Nat) : Int)] ++ s):=by
 unfold dgz;rw [if_neg (by omega),if_neg (by omega),Zdr m s (by omega)]
theorem ZjE (n : Int) (b : Bool) : ∀ (d m : Nat) (s : ByteArray),m < 10 ^ (d + 1) → m ≤ 9223372036854775808 → s.size + d ≤ 1000 →
  Ev (fun k => ZaV.l0 k n s (if b then -(m : Int) else m)) (sgn (decide (n < 0)) (dgz m s)):=by
 have hr : ∀ (m : Nat) (s : ByteArray) (k : Nat),m ≤ 9223372036854775808 → s.size ≤ 1000 → ZaV.l0 (k + 1) n s (if b then -(m : Int) else m) =
   if m < 10 then some (sgn (decide (n < 0)) (dgz m s)) else ZaV.l0 k n (strOfNums [48 + ((m % 10 : Nat) : Int)] ++ s) (if b then -((m / 10 : Nat) : Int) else ((m / 10 : Nat) : Int)):=by
  intro m s k hm hs;simp only [ZaV.l0];rw [ZlV b m,ZlQ b m]
  have hw : wrap64 (if b then -((m / 10 : Nat) : Int) else ((m / 10 : Nat) : Int)) = if b then -((m / 10 : Nat) : Int) else ((m / 10 : Nat) : Int):=by
   apply w64 <;> (cases b <;> simp <;> omega)
  rw [hw,ZhH]
  have hin : decide ((-9 : Int) ≤ (if b then -(m : Int) else m) ∧ (if b then -(m : Int) else m) ≤ 9) = decide (m < 10):=by
   rw [decide_eq_decide];cases b <;> simp <;> omega
  have htail : ∀ y : ByteArray,y.size ≤ 10 → y = strOfNums [48 + ((m % 10 : Nat) : Int)] → (if decide (m < 10) = true then (if n < 0 then (if 1 + (y ++ s).size ≤ 9223372036854775807 then some ((⟨#[45]⟩ : ByteArray) ++ (y ++ s)) else none) else some (y ++ s)) else ZaV.l0 k n (y ++ s) (if b then -((m / 10 : Nat) : Int) else ((m / 10 : Nat) : Int))) = if m < 10 then some (sgn (decide (n < 0)) (dgz m s)) else ZaV.l0 k n (strOfNums [48 + ((m % 10 : Nat) : Int)] ++ s) (if b then -((m / 10 : Nat) : Int) else ((m / 10 : Nat) : Int)):=by
   intro y hy hyy;by_cases h1 : m < 10
   ·rw [if_pos (decide_eq_true h1),if_pos h1,Znm m s h1];rw [show m % 10 = m by omega] at hyy;rw [← hyy];unfold sgn;by_cases h2 : n < 0
    ·rw [if_pos h2,if_pos (by rw [ByteArray.size_append];omega),if_pos (decide_eq_true h2)]
    ·rw [if_neg h2,if_neg (by simpa using h2)]
   ·rw [if_neg (by simpa using h1),if_neg h1,hyy]
  by_cases hd : b = true ∧ m % 10 ≠ 0
  ·obtain ⟨rfl,hd⟩:=hd;simp only [if_true] at hin htail ⊢;rw [if_pos (by omega),w64 (x := - -((m % 10 : Nat) : Int)) (by omega) (by omega),Int.neg_neg,w64 (by omega) (by omega),show (48 + ((m % 10 : Nat) : Int)) % 256 = 48 + ((m % 10 : Nat) : Int) by omega];simp only [Option.bind_some];rw [if_pos (by rw [Zch];simp;omega),hin];exact htail _ (by rw [Zch];simp) rfl
  ·have e : (if b then -((m % 10 : Nat) : Int) else ((m % 10 : Nat) : Int)) = ((m % 10 : Nat) : Int):=by
    cases b
    ·rfl
    ·(simp only [if_true];have : m % 10 = 0:=by simp at hd;exact hd);rw [this];rfl
   rw [e,if_neg (by omega),w64 (by omega) (by omega),show (48 + ((m % 10 : Nat) : Int)) % 256 = 48 + ((m % 10 : Nat) : Int) by omega];simp only [Option.bind_some];rw [if_pos (by rw [Zch];simp;omega),hin];exact htail _ (by rw [Zch];simp) rfl
 intro d
 induction d with
 | zero =>
  intro m s h hm hs;exact Ev.step (f:=fun _ => some (sgn (decide (n < 0)) (dgz m s))) (fun k => by rw [hr m s k hm (by omega),if_pos (by simpa using h)]) (Ev.now _)
 | succ d ih =>
  intro m s h hm hs;by_cases h1 : m < 10
  ·exact Ev.step (f:=fun _ => some (sgn (decide (n < 0)) (dgz m s))) (fun k => by rw [hr m s k hm (by omega),if_pos h1]) (Ev.now _)
  ·rw [dgz_far m s h1];exact Ev.step (fun k => by rw [hr m s k hm (by omega),if_neg h1]) (ih (m / 10) (strOfNums [48 + ((m % 10 : Nat) : Int)] ++ s) (by rw [Nat.pow_succ] at h;omega) (by omega) (by rw [ByteArray.size_append,Zch];simp;omega))
theorem Zoz (n : Int) (h0 : -9223372036854775808 ≤ n) (h1 : n < 9223372036854775808) : Ev (fun k => ZaV.f k n) (decT n):=by
 unfold ZaV.f;have h':=ZjE n (decide (n < 0)) 19 n.natAbs ⟨#[]⟩ (Nat.lt_of_le_of_lt (show n.natAbs ≤ 9223372036854775808 by omega) (by decide)) (by omega) (by simp [ByteArray.size]);rw [← ZfY n] at h'
 have e : decT n = sgn (decide (n < 0)) (dgz n.natAbs ⟨#[]⟩):=by
  by_cases h : n = 0
  ·subst h;rfl
  ·rw [ZeP n h];unfold dgz;rw [if_neg (by omega)]
 rw [e];exact h'
end Go.Proofs.YtfoekmfpcahmiabGreatDoor.Pure
