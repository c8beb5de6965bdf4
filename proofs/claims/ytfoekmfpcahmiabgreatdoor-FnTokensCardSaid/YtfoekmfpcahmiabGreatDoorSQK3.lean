/- Walks of the library's decimal numbers: the array of figures in memory; trim. -/
import Derived.Test.YtfoekmfpcahmiabGreatDoorSQK2
namespace Go.Proofs.YtfoekmfpcahmiabGreatDoor.SF
open Go.RowKit YtfoekmfpcahmiabGreatDoorW.PrintWords CB
def upd (f : Nat → Value) (i : Nat) (v : Value) : Nat → Value:=fun j => if j = i then v else f j
theorem Zcx (f : Nat → Value) (i : Nat) (v : Value) : upd f i v i = v:=if_pos rfl
theorem Zbp (f : Nat → Value) {i j : Nat} (v : Value) (h : j ≠ i) : upd f i v j = f j:=if_neg h
structure Arr (w : World) (B : Nat) (f : Nat → Value) : Prop where
 cell : ∀ i,i < 804 → w.cell? ⟨B,i,none⟩ = some (f i)
 free : ∀ i,i < 804 → w.frozen? ⟨B,i,none⟩ = false
theorem Arr.set {w : World} {B : Nat} {f : Nat → Value} (h : Arr w B f) {i : Nat} (hi : i < 804) (v : Value) : Arr (w.setCell ⟨B,i,none⟩ v) B (upd f i v):=by
 refine ⟨fun j hj => ?_,fun j hj => ?_⟩
 ·by_cases e : j = i
  ·subst e;rw [Zcx];exact World.cell?_setCell_same _ _ _ (h.cell j hj)
  ·rw [Zbp _ _ e,World.cell?_setCell_other (h:=fun hh => e (by injection hh with _ h2 _;exact h2.symm))];exact h.cell j hj
 ·rw [World.frozen?_setCell];exact h.free j hj
theorem Arr.drewN {w : World} {B : Nat} {f : Nat → Value} (h : Arr w B f) (n : Nat) : Arr (w.drewN n) B f:=⟨h.cell,h.free⟩
structure Dec (f : Nat → Value) (ds : List Nat) (dp : Int) (neg tr : Bool) : Prop where
 dig : ∀ i,i < ds.length → f i = .int .u8 ((48 + ds.getD i 0 : Nat) : Int)
 ten : ∀ i,ds.getD i 0 < 10
 len : ds.length ≤ 800
 nd : f 800 = .int .i64 ds.length
 dpt : f 801 = .int .i64 dp
 ngt : f 802 = .bool neg
 trn : f 803 = .bool tr
def strip (ds : List Nat) : List Nat:=(ds.reverse.dropWhile (· == 0)).reverse
theorem strip_nil : strip [] = []:=rfl
theorem ZeY (ds : List Nat) : strip (ds ++ [0]) = strip ds:=by unfold strip;simp
theorem ZfO (ds : List Nat) (d : Nat) (h : d ≠ 0) : strip (ds ++ [d]) = ds ++ [d]:=by
 unfold strip;(have : (d == 0) = false:=by simpa using h);simp [this]
theorem ZcC (l m : List Nat) {i : Nat} (h : i < l.length) : (l ++ m).getD i 0 = l.getD i 0:=by simp [List.getD,List.getElem?_append_left h]
theorem ZbD (l : List Nat) {i : Nat} (h : l.length ≤ i) : l.getD i 0 = 0:=by simp [List.getD,List.getElem?_eq_none h]
theorem Zdp (l : List Nat) (d : Nat) : (l ++ [d]).getD l.length 0 = d:=by simp [List.getD]
theorem Dec.drop {f : Nat → Value} {ds : List Nat} {d : Nat} {dp : Int} {neg tr : Bool} (h : Dec f (ds ++ [d]) dp neg tr) : Dec (upd f 800 (.int .i64 ds.length)) ds dp neg tr:=by
 have hl:=h.len;rw [List.length_append,List.length_singleton] at hl;refine ⟨fun i hi => ?_,fun i => ?_,by omega,Zcx ..,?_,?_,?_⟩
 ·rw [Zbp _ _ (by omega),h.dig i (by rw [List.length_append];omega),ZcC _ _ hi]
 ·by_cases hi : i < ds.length
  ·have:=h.ten i;rw [ZcC _ _ hi] at this;exact this
  ·rw [ZbD _ (by omega)];omega
 ·rw [Zbp _ _ (by omega)];exact h.dpt
 ·rw [Zbp _ _ (by omega)];exact h.ngt
 ·rw [Zbp _ _ (by omega)];exact h.trn
theorem Dec.Ziv {f : Nat → Value} {ds : List Nat} {dp : Int} {neg tr : Bool} (h : Dec f ds dp neg tr) (q : Int) : Dec (upd f 801 (.int .i64 q)) ds q neg tr :=
 ⟨fun i hi => by rw [Zbp _ _ (by have:=h.len;omega)];exact h.dig i hi,h.ten,h.len,by rw [Zbp _ _ (by omega)];exact h.nd,Zcx ..,by rw [Zbp _ _ (by omega)];exact h.ngt,by rw [Zbp _ _ (by omega)];exact h.trn⟩
structure Made (B : Nat) (w w' : World) (ds : List Nat) (dp : Int) (neg tr : Bool) : Prop where mk ::
 out : ∃ f,Arr w' B f ∧ Dec f ds dp neg tr ∧ Below B w w'
theorem Zjk (l : List Nat) : l = [] ∨ ∃ m d,l = m ++ [d]:=by
 rcases List.eq_nil_or_concat l with h | ⟨m,d,h⟩
 ·exact .inl h
 ·exact .inr ⟨m,d,by rw [h,List.concat_eq_append]⟩
theorem Made.mk' {B : Nat} {w w' : World} {f : Nat → Value} {ds : List Nat} {dp : Int} {neg tr : Bool} (h1 : Arr w' B f) (h2 : Dec f ds dp neg tr) (h3 : Below B w w') : Made B w w' ds dp neg tr:=⟨f,h1,h2,h3⟩
set_option maxHeartbeats 1000000 in
theorem ZeW (B : Nat) (f : Nat → Value) (ds es : List Nat) (dp q : Int) (neg tr : Bool) (w : World) (ha : Arr w B f) (hd : Dec f ds dp neg tr) (hes : strip ds = es) (hq : (if es = [] then 0 else dp) = q) :
  Calls Tryz.prog 149 #[.pointer (some ⟨B,0,none⟩)] w fun e w' => e = .returned (.tuple #[]) ∧ Made B w w' es q neg tr:=by
 have HA:=Lib.hid ha;have HD:=Lib.hid hd;have HES:=Lib.hid hes;have HQ:=Lib.hid hq;clear ha hd hes hq;go_enter Tryz.func149,Tryz.ntmps149;go_wp2;go_loopg [] ds.length (fun k wr => ∃ (xs : List Nat) (g : Nat → Value),Hid (xs.length = k ∧ strip xs = es ∧ Arr wr B g ∧ Dec g xs dp neg tr ∧ Below B w wr))
 case atStart => exact ⟨ds,f,Lib.hid ⟨rfl,HES.out,HA.out,HD.out,Below.refl _ _⟩⟩
 case round =>
  obtain ⟨xs,g,HR⟩:=hrel;have f0:=HR.out.2.2.1.free 800 (by omega);have f1:=HR.out.2.2.1.free 801 (by omega);have c3 : wr.cell? ⟨B,801,none⟩ = some (.int .i64 dp):=(HR.out.2.2.1.cell 801 (by omega)).trans (congrArg some HR.out.2.2.2.1.dpt);rcases Zjk xs with rfl | ⟨xs',d,rfl⟩
  ·have c0 : wr.cell? ⟨B,800,none⟩ = some (.int .i64 0):=(HR.out.2.2.1.cell 800 (by omega)).trans (congrArg some HR.out.2.2.2.1.nd)
   have HM : Hid (∀ n,Made B w ((wr.drewN n).setCell ⟨B,801,none⟩ (.int .i64 0)) es q neg tr):=Lib.hid (by
    intro n;have he : es = []:=HR.out.2.1.symm.trans strip_nil;have hq:=HQ.out;rw [he,if_pos rfl] at hq;rw [he,← hq]
    exact Made.mk' ((HR.out.2.2.1.drewN n).set (by omega) _) (HR.out.2.2.2.1.Ziv 0) ((Zac HR.out.2.2.2.2 n).setCell (Nat.le_refl _) _))
   go_wp2;go_quiet (fail);go_wp2;go_end0;exact ⟨rfl,HM.out _⟩
  ·have hlen:=HR.out.2.2.2.1.len;rw [List.length_append,List.length_singleton] at hlen;have c0 : wr.cell? ⟨B,800,none⟩ = some (.int .i64 ((xs'.length : Int) + 1)):=(HR.out.2.2.1.cell 800 (by omega)).trans (congrArg some (HR.out.2.2.2.1.nd.trans (by simp)));have c1 : wr.cell? ⟨B,xs'.length,none⟩ = some (.int .u8 ((48 + d : Nat) : Int)):=(HR.out.2.2.1.cell xs'.length (by omega)).trans (congrArg some ((HR.out.2.2.2.1.dig xs'.length (by simp)).trans (by rw [Zdp])));(have hd10 : d < 10:=by have:=HR.out.2.2.2.1.ten xs'.length;rw [Zdp] at this;exact this);by_cases h0 : d = 0
   ·subst h0
    have HM : Hid (∀ n,strip xs' = es ∧ Arr ((wr.drewN n).setCell ⟨B,800,none⟩ (.int .i64 xs'.length)) B (upd g 800 (.int .i64 xs'.length)) ∧ Dec (upd g 800 (.int .i64 xs'.length)) xs' dp neg tr ∧ Below B w ((wr.drewN n).setCell ⟨B,800,none⟩ (.int .i64 xs'.length))):=Lib.hid (fun n =>
     ⟨(ZeY xs').symm.trans HR.out.2.1,(HR.out.2.2.1.drewN n).set (by omega) _,HR.out.2.2.2.1.drop,(Zac HR.out.2.2.2.2 n).setCell (Nat.le_refl _) _⟩)
    have HK : Hid (xs'.length + 1 = gk):=Lib.hid (by have:=HR.out.1;simpa using this)
    generalize hm : xs'.length = m at *
    have HML:=Lib.hid hm;clear hm;go_wp2;go_quiet (fail);go_wp2;go_roundg m
    case measure => have:=HK.out;omega
    case rel => exact ⟨xs',_,Lib.hid ⟨HML.out,HM.out _⟩⟩
   ·have HM : Hid (∀ n,Made B w (wr.drewN n) es q neg tr):=Lib.hid (by
     intro n;have he : xs' ++ [d] = es:=(ZfO xs' d h0).symm.trans HR.out.2.1;have hq:=HQ.out;rw [if_neg (by rw [← he];simp)] at hq;rw [← he,← hq]
     exact Made.mk' (HR.out.2.2.1.drewN n) HR.out.2.2.2.1 (Zac HR.out.2.2.2.2 n))
    have c2 : (((48 + d : Nat) : Int) == 48) = false:=by simp;omega
    generalize hm : xs'.length = m at *
    have HML:=Lib.hid hm;clear hm;(have c4 : ((m : Int) + 1 == 0) = false:=by simp;omega);go_wp2;go_quiet (fail);go_wp2;go_end0;exact ⟨rfl,HM.out _⟩
def numL (ds : List Nat) : Nat:=ds.foldl (fun a d => a * 10 + d) 0
theorem ZeF (ds : List Nat) (d : Nat) : numL (ds ++ [d]) = numL ds * 10 + d:=by unfold numL;rw [List.foldl_append];rfl
def pre (ds : List Nat) : Nat → Nat
 | 0 => 0
 | r + 1 => pre ds r * 10 + ds.getD r 0
theorem Zoe (ds : List Nat) (r : Nat) (h : r ≤ ds.length) : pre ds r = numL (ds.take r):=by
 induction r with
 | zero => rfl
 | succ r ih =>
  rw [pre,ih (by omega),List.take_succ_eq_append_getElem (by omega),ZeF];simp [List.getD,List.getElem?_eq_getElem (show r < ds.length by omega)]
theorem Ze5 (ds : List Nat) : pre ds ds.length = numL ds:=by rw [Zoe _ _ (Nat.le_refl _),List.take_length]
theorem Zfx (ds : List Nat) (t : Nat) : pre ds (ds.length + t) = numL ds * 10 ^ t:=by
 induction t with
 | zero => rw [Nat.add_zero,Ze5,Nat.pow_zero,Nat.mul_one]
 | succ t ih => rw [← Nat.add_assoc,pre,ih,ZbD _ (by omega),Nat.pow_succ,Nat.add_zero,Nat.mul_assoc]
theorem Zog (ds : List Nat) (r : Nat) : pre ds r ≤ pre ds (r + 1):=by rw [pre];omega
theorem Zo5 (ds : List Nat) {r s : Nat} (h : r ≤ s) : pre ds r ≤ pre ds s:=by
 obtain ⟨t,rfl⟩:=Nat.le.dest h;clear h
 induction t with
 | zero => exact Nat.le_refl _
 | succ t ih => exact Nat.le_trans ih (Zog ds (r + t))
theorem Zjs (ds : List Nat) (h : ds.getD 0 0 ≠ 0) {r : Nat} (hr : 1 ≤ r) : 1 ≤ pre ds r:=by
 have:=Zo5 ds hr;have e : pre ds 1 = 0 * 10 + ds.getD 0 0:=rfl;omega
theorem Zg0 (ds : List Nat) : ∃ t,ds = strip ds ++ List.replicate t 0:=by
 induction hn : ds.length generalizing ds with
 | zero => exact ⟨0,by rw [List.length_eq_zero_iff.1 hn];rfl⟩
 | succ n ih =>
  rcases Zjk ds with rfl | ⟨m,d,rfl⟩
  ·cases hn
  ·by_cases h : d = 0
   ·subst h;obtain ⟨t,ht⟩:=ih m (by simpa using hn);refine ⟨t + 1,?_⟩;rw [ZeY,List.replicate_succ',← List.append_assoc,← ht]
   ·exact ⟨0,by rw [ZfO _ _ h];simp⟩
theorem Zlc (ds : List Nat) (t : Nat) : numL (ds ++ List.replicate t 0) = numL ds * 10 ^ t:=by
 induction t with
 | zero => simp
 | succ t ih => rw [List.replicate_succ',← List.append_assoc,ZeF,ih,Nat.pow_succ,Nat.add_zero,Nat.mul_assoc]
theorem ZgP (ds : List Nat) : strip ds = [] ∨ ∃ m d,strip ds = m ++ [d] ∧ d ≠ 0:=by
 induction hn : ds.length generalizing ds with
 | zero => exact .inl (by rw [List.length_eq_zero_iff.1 hn];rfl)
 | succ n ih =>
  rcases Zjk ds with rfl | ⟨m,d,rfl⟩
  ·cases hn
  ·by_cases h : d = 0
   ·subst h;rw [ZeY];exact ih m (by simpa using hn)
   ·exact .inr ⟨m,d,ZfO _ _ h,h⟩
structure ZkF (ds : List Nat) (k nd rr nn : Nat) : Prop where
 n : nn = pre ds rr
 hi : 2 ^ k ≤ nn
 one : 1 ≤ rr
 lo : pre ds (rr - 1) < 2 ^ k
 r : rr ≤ nd + k
theorem Zfq (n k : Nat) : ((n : Int) / 2 ^ k == 0) = decide (n < 2 ^ k):=by
 (have e : (n : Int) / 2 ^ k = ((n / 2 ^ k : Nat) : Int):=by rw [Int.natCast_ediv,ZcT]);have hK : 0 < 2 ^ k:=Nat.pow_pos (by omega);rw [e,Bool.eq_iff_iff,beq_iff_eq,decide_eq_true_iff];constructor
 ·intro h;(have : n / 2 ^ k = 0:=by omega);exact (Nat.div_eq_zero_iff.1 this).resolve_left (by omega)
 ·intro h;rw [Nat.div_eq_of_lt h];rfl
theorem ZfM (k : Nat) : 2 ^ k ≤ 10 ^ k:=Nat.pow_le_pow_left (by omega) k
structure RS (B k : Nat) (f : Nat → Value) (ds : List Nat) (w wr : World) (r0 rr nn : Nat) (os : List Nat) (g : Nat → Value) : Prop where
 len : os.length + r0 = rr
 eq : pre ds rr = numL os * (10 * 2 ^ k) + nn
 lt : nn < 10 * 2 ^ k
 ten : ∀ i,os.getD i 0 < 10
 top : os = [] → 2 ^ k ≤ nn
 hd : os ≠ [] → os.getD 0 0 ≠ 0
 arr : Arr wr B g
 out : ∀ i,i < os.length → g i = .int .u8 ((48 + os.getD i 0 : Nat) : Int)
 old : ∀ i,os.length ≤ i → g i = f i
 bel : Below B w wr
theorem RS.next {B k : Nat} {f : Nat → Value} {ds : List Nat} {w wr : World} {r0 rr nn : Nat} {os : List Nat} {g : Nat → Value} (h : RS B k f ds w wr r0 rr nn os g) (hten : ∀ i,ds.getD i 0 < 10) (hl : os.length < 800) :
  RS B k f ds w (wr.setCell ⟨B,os.length,none⟩ (.int .u8 ((48 + nn / 2 ^ k : Nat) : Int))) r0 (rr + 1) (nn % 2 ^ k * 10 + ds.getD rr 0) (os ++ [nn / 2 ^ k]) (upd g os.length (.int .u8 ((48 + nn / 2 ^ k : Nat) : Int))):=by
 have hK : 0 < 2 ^ k:=Nat.pow_pos (by omega);have hlt:=h.lt;have hm:=Nat.mod_lt nn hK;have hdm:=Nat.div_add_mod nn (2 ^ k);have hd10 : nn / 2 ^ k < 10:=Nat.div_lt_of_lt_mul (by rw [Nat.mul_comm];exact hlt);have ht:=hten rr;refine ⟨by have:=h.len;simp;omega,?_,by omega,fun i => ?_,fun hh => absurd hh (by simp),fun _ => ?_,h.arr.set (by omega) _,fun i hi => ?_,fun i hi => ?_,h.bel.setCell (Nat.le_refl _) _⟩
 ·rw [pre,h.eq,ZeF]
  generalize 2 ^ k = K at *
  generalize nn / K = q at *
  generalize nn % K = m at *
  have e1 : (numL os * 10 + q) * (10 * K) = numL os * (10 * K) * 10 + 10 * (K * q):=by
   rw [Nat.add_mul];(have a1 : numL os * 10 * (10 * K) = numL os * (10 * K) * 10:=by ac_rfl);(have a2 : q * (10 * K) = 10 * (K * q):=by ac_rfl);rw [a1,a2]
  rw [e1];omega
 ·rcases Nat.lt_trichotomy i os.length with hi | hi | hi
  ·rw [ZcC _ _ hi];exact h.ten i
  ·subst hi;rw [Zdp];exact hd10
  ·rw [ZbD _ (by simp;omega)];omega
 ·rcases Nat.eq_zero_or_pos os.length with h0 | h0
  ·have e:=List.length_eq_zero_iff.1 h0;subst e;have:=h.top rfl;show nn / 2 ^ k ≠ 0;have : 1 ≤ nn / 2 ^ k:=(Nat.le_div_iff_mul_le hK).2 (by omega);omega
  ·rw [ZcC _ _ h0];exact h.hd (by intro e;rw [e] at h0;cases h0)
 ·rw [List.length_append,List.length_singleton] at hi;rcases Nat.lt_or_eq_of_le (Nat.le_of_lt_succ hi) with h1 | h1
  ·rw [Zbp _ _ (by omega),h.out i h1,ZcC _ _ h1]
  ·subst h1;rw [Zcx,Zdp]
 ·rw [List.length_append,List.length_singleton] at hi;rw [Zbp _ _ (by omega)];exact h.old i (by omega)
theorem RS.ends {B k : Nat} {f : Nat → Value} {ds : List Nat} {w wr : World} {r0 rr nn : Nat} {os : List Nat} {g : Nat → Value} (h : RS B k f ds w wr r0 rr nn os g) (hn : nn ≠ 0) : rr ≤ ds.length + k + 1 → rr ≤ ds.length + k:=by
 intro hle;rcases Nat.lt_or_eq_of_le hle with h1 | h1
 ·omega
 ·exfalso;have e:=h.eq;have hlt:=h.lt;rw [h1,show ds.length + k + 1 = ds.length + (k + 1) by omega,Zfx] at e
  have d1 : 2 ^ k * 10 ∣ numL ds * 10 ^ (k + 1):=by
   rw [Nat.pow_succ,show (10 : Nat) ^ k = 2 ^ k * 5 ^ k by rw [← Nat.mul_pow]];exact ⟨numL ds * 5 ^ k,by ac_rfl⟩
  have d2 : 2 ^ k * 10 ∣ numL os * (10 * 2 ^ k):=⟨numL os,by ac_rfl⟩;have d3 : 2 ^ k * 10 ∣ nn:=(Nat.dvd_add_right d2).1 (e ▸ d1);have:=Nat.le_of_dvd (by omega) d3;omega
theorem RS.start {B k nd rr nn : Nat} {f : Nat → Value} {ds : List Nat} {w wr : World} (h : ZkF ds k nd rr nn) (hten : ∀ i,ds.getD i 0 < 10) (ha : Arr wr B f) (hb : Below B w wr) : RS B k f ds w wr rr rr nn [] f:=by
 refine ⟨by simp,by rw [h.n];simp [numL],?_,fun i => by simp,fun _ => h.hi,fun hh => absurd rfl hh,ha,fun i hi => absurd hi (by simp),fun _ _ => rfl,hb⟩;obtain ⟨r,rfl⟩ : ∃ r,rr = r + 1:=⟨rr - 1,by have:=h.one;omega⟩;have h1:=h.lo;rw [Nat.add_sub_cancel] at h1;have h2:=hten r;rw [h.n,pre];omega
theorem RS.put {B k : Nat} {f : Nat → Value} {ds : List Nat} {w wr : World} {r0 rr nn d m c : Nat} {os : List Nat} {g : Nat → Value} (h : RS B k f ds w wr r0 rr nn os g) (hten : ∀ i,ds.getD i 0 < 10) (hl : os.length < 800) (hd : nn / 2 ^ k = d) (hm : nn % 2 ^ k = m) (hc : ds.getD rr 0 = c) :
  ∃ os' g',os'.length = os.length + 1 ∧ RS B k f ds w (wr.setCell ⟨B,os.length,none⟩ (.int .u8 ((d : Int) + 48))) r0 (rr + 1) (m * 10 + c) os' g':=by
 have h1:=h.next hten hl
 rw [hd,hm,hc,show ((48 + d : Nat) : Int) = (d : Int) + 48 by omega] at h1;exact ⟨_,_,by simp,h1⟩
theorem Zkz (n k : Nat) (hn : n < 18446744073709551616) (hk : 2 ^ k ≤ 1152921504606846976) : Go.bits .and .u64 (n : Int) (((2 ^ k : Nat) : Int) - 1) = ((n % 2 ^ k : Nat) : Int):=by
 have h:=ZdP n (2 ^ k - 1) hn (by omega);rw [mask] at h;have hK : 0 < 2 ^ k:=Nat.pow_pos (by omega);rw [← h,show ((2 ^ k - 1 : Nat) : Int) = ((2 ^ k : Nat) : Int) - 1 by omega]
structure Zi8 (k : Nat) (ds : List Nat) (dp : Int) (es : List Nat) (q : Int) : Prop where
 ne : es ≠ []
 top : es.getD 0 0 ≠ 0
 last : ∃ m d,es = m ++ [d] ∧ d ≠ 0
 val : ∃ a b : Nat,numL es * 2 ^ k * 10 ^ a = numL ds * 10 ^ b ∧ q - es.length - (dp - ds.length) = (a : Int) - b
 bnd : dp - 1000 ≤ q ∧ q ≤ dp
theorem Made.after {B : Nat} {w wm w' : World} {ds : List Nat} {dp : Int} {neg tr : Bool} (hb : Below B w wm) (h : Made B wm w' ds dp neg tr) : Made B w w' ds dp neg tr:=by
 obtain ⟨f,h1,h2,h3⟩:=h;exact ⟨f,h1,h2,hb.trans h3⟩
structure ZdZ (B : Nat) (w w' : World) (k : Nat) (ds : List Nat) (dp : Int) (neg tr : Bool) : Prop where mk ::
 out : ∃ es q,Made B w w' es q neg tr ∧ Zi8 k ds dp es q
theorem RS.dec {B k nd : Nat} {f : Nat → Value} {ds : List Nat} {w wr : World} {r0 rr nn : Nat} {os : List Nat} {g : Nat → Value} {dp q : Int} {neg tr : Bool} (h : RS B k (upd f 801 (.int .i64 q)) ds w wr r0 rr nn os g) (hd : Dec f ds dp neg tr) (hl : os.length ≤ 800) (_hn : ds.length = nd) : Dec (upd g 800 (.int .i64 os.length)) os q neg tr:=by
 refine ⟨fun i hi => ?_,h.ten,hl,Zcx ..,?_,?_,?_⟩
 ·rw [Zbp _ _ (by omega)];exact h.out i hi
 ·rw [Zbp _ _ (by omega),h.old 801 (by omega),Zcx]
 ·rw [Zbp _ _ (by omega),h.old 802 (by omega),Zbp _ _ (by omega)];exact hd.ngt
 ·rw [Zbp _ _ (by omega),h.old 803 (by omega),Zbp _ _ (by omega)];exact hd.trn
theorem ZeZ (os : List Nat) : ∃ t,numL os = numL (strip os) * 10 ^ t ∧ os.length = (strip os).length + t:=by
 obtain ⟨t,ht⟩:=Zg0 os;refine ⟨t,?_,?_⟩
 ·conv => lhs;rw [ht]
  exact Zlc _ _
 ·conv => lhs;rw [ht]
  simp
theorem Zj5 (os : List Nat) (h : numL os ≠ 0) : strip os ≠ []:=by
 intro e;obtain ⟨t,h1,_⟩:=ZeZ os;rw [e] at h1;have : numL [] = 0:=rfl;rw [this] at h1;omega
theorem Zib (os : List Nat) (h : strip os ≠ []) : (strip os).getD 0 0 = os.getD 0 0:=by
 obtain ⟨t,ht⟩:=Zg0 os
 conv => rhs;rw [ht]
 rw [ZcC _ _ (List.length_pos_iff.2 h)]
theorem RS.halved {B k : Nat} {f : Nat → Value} {ds : List Nat} {w wr : World} {r0 rr : Nat} {os : List Nat} {g : Nat → Value} (h : RS B k f ds w wr r0 rr 0 os g) (hr : ds.length ≤ rr) (dp : Int) (hr0 : 1 ≤ r0) (hr1 : r0 ≤ 900) : strip os ≠ [] ∧ Zi8 k ds dp (strip os) (dp - ((r0 : Int) - 1)):=by
 have hK : 0 < 2 ^ k:=Nat.pow_pos (by omega);(have hos : os ≠ []:=fun e => by have:=h.top e;omega);have h0:=h.hd hos;have e:=h.eq;obtain ⟨b,hb⟩:=Nat.le.dest hr;rw [← hb,Zfx,Nat.add_zero] at e
 have hn0 : numL os ≠ 0:=by
  intro hz
  have h1 : 1 ≤ numL os:=by
   have:=Zjs os h0 (r:=os.length) (List.length_pos_iff.2 hos);rw [Ze5] at this;exact this
  omega
 have hne:=Zj5 os hn0;refine ⟨hne,hne,by rw [Zib os hne];exact h0,(ZgP os).resolve_left hne,?_,by omega,by omega⟩;obtain ⟨t,ht1,ht2⟩:=ZeZ os;refine ⟨t + 1,b,?_,?_⟩
 ·rw [e,ht1,Nat.pow_succ];ac_rfl
 ·have:=h.len;omega
set_option maxHeartbeats 4000000 in
set_option maxRecDepth 100000 in
theorem Zdu (B k : Nat) (f : Nat → Value) (ds : List Nat) (dp : Int) (neg tr : Bool) (w : World) (ha : Arr w B f) (hd : Dec f ds dp neg tr) (hk : k ≤ 60) (hk1 : 1 ≤ k) (h0 : ds.getD 0 0 ≠ 0) (hroom : ds.length + k ≤ 800) (hdp1 : -100000 ≤ dp) (hdp2 : dp ≤ 100000) :
  Calls Tryz.prog 144 #[.pointer (some ⟨B,0,none⟩),.int .u64 k] w fun e w' => e = .returned (.tuple #[]) ∧ ZdZ B w w' k ds dp neg tr:=by
 have HA:=Lib.hid ha;have HD:=Lib.hid hd;have hlen:=hd.len;have c0 : w.cell? ⟨B,800,none⟩ = some (.int .i64 ds.length):=(ha.cell 800 (by omega)).trans (congrArg some hd.nd);have c1 : w.cell? ⟨B,801,none⟩ = some (.int .i64 dp):=(ha.cell 801 (by omega)).trans (congrArg some hd.dpt);have f1:=ha.free 801 (by omega);have H0:=Lib.hid h0;have hK60 : 2 ^ k ≤ 1152921504606846976:=Nat.le_trans (Nat.pow_le_pow_right (by omega) hk) (by decide);have hKp : 0 < 2 ^ k:=Nat.pow_pos (by omega)
 have hnd1 : 1 ≤ ds.length:=by
  rcases Nat.eq_zero_or_pos ds.length with h | h
  ·exact absurd (by rw [ZbD _ (by omega)]) h0
  ·exact h
 clear ha hd h0
 generalize hn : ds.length = nd at *
 have HN:=Lib.hid hn;clear hn;go_enter Tryz.func144,Tryz.ntmps144;go_upto_block 0 with fail;go_cut [4,6] (fun r n wc => ∃ rr nn : Nat,r = .int .i64 rr ∧ n = .int .u64 nn ∧ w = wc ∧ Hid (ZkF ds k nd rr nn))
 case first =>
  go_wp2;go_loop [4,6,7] (fun r n _ => ∃ rr nn : Nat,r = .int .i64 rr ∧ n = .int .u64 nn ∧ Hid (nn = pre ds rr ∧ rr ≤ nd ∧ (rr = 0 ∨ pre ds (rr - 1) < 2 ^ k))) (fun r _ _ => 900 - (intOf r).toNat)
  case atStart => exact ⟨0,0,rfl,rfl,Lib.hid ⟨rfl,Nat.zero_le _,.inl rfl⟩⟩
  case round =>
   obtain ⟨rr,nn,rfl,rfl,HR⟩:=hrel;have hrn : rr ≤ nd:=HR.out.2.1;have hx:=Zfq nn k;by_cases hz : nn < 2 ^ k
   ·rw [decide_eq_true hz] at hx;by_cases hlast : rr < nd
    ·have t2 : w.cell? ⟨B,rr,none⟩ = some (.int .u8 ((48 + ds.getD rr 0 : Nat) : Int)):=(HA.out.cell rr (by omega)).trans (congrArg some (HD.out.dig rr (by rw [HN.out];exact hlast)));have hd10:=HD.out.ten rr;have HV : Hid (((nn : Int) * 10 + ((48 + ds.getD rr 0 : Nat) : Int) - 48) = ((pre ds (rr + 1) : Nat) : Int) ∧ pre ds (rr + 1) = pre ds (rr + 1) ∧ rr + 1 ≤ nd ∧ (rr + 1 = 0 ∨ pre ds (rr + 1 - 1) < 2 ^ k)):=Lib.hid ⟨by rw [pre,← HR.out.1];omega,rfl,hlast,.inr (by rw [Nat.add_sub_cancel,← HR.out.1];exact hz)⟩
     generalize ds.getD rr 0 = d at *
     go_wp2;go_round
     case rel => exact ⟨rr + 1,pre ds (rr + 1),by go_num,congrArg (Value.int .u64) (by rw [← HV.out.1];omega),Lib.hid HV.out.2⟩
     case measure => simp [intOf];omega
    ·(obtain rfl : nd = rr:=by omega);(have hp1 : 1 ≤ nn:=by rw [HR.out.1];exact Zjs ds H0.out hnd1);(have t3 : ((nn : Int) == 0) = false:=by simp;omega);have HZ:=Lib.hid hz;clear hz;go_wp2;go_loop [4,6] (fun r n => ∃ ss mm : Nat,r = .int .i64 ss ∧ n = .int .u64 mm ∧ Hid (mm = pre ds ss ∧ nd ≤ ss ∧ pre ds (ss - 1) < 2 ^ k ∧ ss ≤ nd + k)) (fun r _ => 900 - (intOf r).toNat)
     case atStart => exact ⟨nd,nn,rfl,rfl,Lib.hid ⟨HR.out.1,Nat.le_refl _,Nat.lt_of_le_of_lt (Zo5 ds (Nat.sub_le _ _)) (HR.out.1 ▸ HZ.out),by omega⟩⟩
     case round =>
      obtain ⟨ss,mm,rfl,rfl,HS⟩:=hrel;have hss : ss ≤ nd + k:=HS.out.2.2.2;have hy:=Zfq mm k;by_cases hz : mm < 2 ^ k
      ·rw [decide_eq_true hz] at hy
       have hmore : ss + 1 ≤ nd + k:=by
        have e:=HS.out.1;obtain ⟨t,ht⟩:=Nat.le.dest HS.out.2.1;rw [← ht,← HN.out,Zfx] at e;have h1:=Zjs ds H0.out hnd1;rw [← HN.out,Ze5] at h1;have h2 : 1 * 10 ^ t ≤ numL ds * 10 ^ t:=Nat.mul_le_mul_right _ h1;have h3 : 10 ^ t < 10 ^ k:=Nat.lt_of_lt_of_le (by omega) (ZfM k);have:=(Nat.pow_lt_pow_iff_right (show 1 < 10 by omega)).1 h3;omega
       have HV : Hid (pre ds (ss + 1) = mm * 10 ∧ pre ds (ss + 1 - 1) < 2 ^ k):=Lib.hid ⟨by rw [pre,← HS.out.1,ZbD _ (by have:=HS.out.2.1;have:=HN.out;omega),Nat.add_zero],by rw [Nat.add_sub_cancel,← HS.out.1];exact hz⟩;go_wp2;go_round
       case rel => exact ⟨ss + 1,mm * 10,by go_num,by go_num,Lib.hid ⟨HV.out.1.symm,by have:=HS.out.2.1;omega,HV.out.2,hmore⟩⟩
       case measure => simp [intOf];omega
      ·rw [decide_eq_false hz] at hy;have HE : Hid (ZkF ds k nd ss mm):=Lib.hid ⟨HS.out.1,by omega,by have:=HS.out.2.1;omega,HS.out.2.2.1,hss⟩;go_wp2;go_meet
       case rel => exact ⟨ss,mm,rfl,rfl,rfl,HE⟩
   ·rw [decide_eq_false hz] at hx
    have HE : Hid (ZkF ds k nd rr nn):=Lib.hid ⟨HR.out.1,by omega,by
     rcases Nat.eq_zero_or_pos rr with h | h
     ·exfalso;have:=HR.out.1;rw [h] at this;have e : pre ds 0 = 0:=rfl;omega
     ·exact h,by
     rcases HR.out.2.2 with h | h
     ·exfalso;have:=HR.out.1;rw [h] at this;have e : pre ds 0 = 0:=rfl;omega
     ·exact h,by omega⟩
    go_wp2;go_meet
    case rel => exact ⟨rr,nn,rfl,rfl,rfl,HE⟩
 case rest =>
  obtain ⟨r0,n0,rfl,rfl,rfl,HE⟩:=hcut;have hr1 : 1 ≤ r0:=HE.out.one;(have hr2 : r0 ≤ 800:=by have:=HE.out.r;omega);obtain ⟨K,hKK⟩ : ∃ K,2 ^ k = K:=⟨_,rfl⟩;(have h2k : IntKind.u64.wrap ((2 : Int) ^ k) = (K : Int):=by rw [← ZcT,wu64,hKK];omega);(have hKl : K ≤ 1152921504606846976:=by omega);(have hKl1 : 1 ≤ K:=by omega);have HKK:=Lib.hid hKK;clear hKK;have HFA : Hid (Arr (w.setCell ⟨B,801,none⟩ (.int .i64 (dp - ((r0 : Int) - 1)))) B (upd f 801 (.int .i64 (dp - ((r0 : Int) - 1))))):=Lib.hid (HA.out.set (by omega) _);have HST : Hid (RS B k (upd f 801 (.int .i64 (dp - ((r0 : Int) - 1)))) ds w (w.setCell ⟨B,801,none⟩ (.int .i64 (dp - ((r0 : Int) - 1)))) r0 r0 n0 [] (upd f 801 (.int .i64 (dp - ((r0 : Int) - 1))))):=Lib.hid (RS.start HE.out HD.out.ten HFA.out ((Below.refl B w).setCell (p:=⟨B,801,none⟩) (Nat.le_refl B) _));go_wp2;go_loopw [4,5,6,9,10] (fun r ww n _ _ wr => ∃ (rr nn wn : Nat) (os : List Nat) (g : Nat → Value),r = .int .i64 rr ∧ ww = .int .i64 wn ∧ n = .int .u64 nn ∧ Hid (RS B k (upd f 801 (.int .i64 (dp - ((r0 : Int) - 1)))) ds w wr r0 rr nn os g ∧ wn = os.length ∧ (rr ≤ nd ∨ rr = r0))) (fun r _ _ _ _ _ => 900 - (intOf r).toNat)
  case atStart => exact ⟨r0,n0,0,[],_,rfl,rfl,rfl,Lib.hid ⟨HST.out,rfl,.inr rfl⟩⟩
  case round =>
   obtain ⟨rr,nn,wn,os,g,rfl,rfl,rfl,HR⟩:=hrel;(have hrl : rr ≤ 800:=by have:=HR.out.2.2;omega);(have hwl : wn + 1 ≤ rr:=by have:=HR.out.1.len;have:=HR.out.2.1;omega);have k0 : wr.cell? ⟨B,800,none⟩ = some (.int .i64 nd):=(HR.out.1.arr.cell 800 (by omega)).trans (congrArg some (by rw [HR.out.1.old 800 (by have:=HR.out.1.len;omega),Zbp _ _ (by omega),HD.out.nd,HN.out]));by_cases hlt : rr < nd
   ·have k1 : wr.cell? ⟨B,rr,none⟩ = some (.int .u8 ((48 + ds.getD rr 0 : Nat) : Int)):=(HR.out.1.arr.cell rr (by omega)).trans (congrArg some (by rw [HR.out.1.old rr (by have:=HR.out.1.len;omega),Zbp _ _ (by omega),HD.out.dig rr (by rw [HN.out];exact hlt)]));have k2:=HR.out.1.arr.free wn (by omega);have k3:=HR.out.1.arr.cell wn (by omega);have hc10:=HD.out.ten rr;have hnl:=HR.out.1.lt;(have e1 : (nn : Int) / 2 ^ k = ((nn / 2 ^ k : Nat) : Int):=by rw [Int.natCast_ediv,ZcT]);(have e2 : Go.bits .and .u64 (nn : Int) ((K : Int) - 1) = ((nn % 2 ^ k : Nat) : Int):=by have:=Zkz nn k (by omega) hK60;rw [HKK.out] at this ⊢;exact this);have hm:=Nat.mod_lt nn hKp;(have hm60 : nn % 2 ^ k < 1152921504606846976:=by omega);have hdl : nn / 2 ^ k < 10:=Nat.div_lt_of_lt_mul (by rw [Nat.mul_comm];exact hnl);have hp:=HR.out.1.put (d:=nn / 2 ^ k) (m:=nn % 2 ^ k) (c:=ds.getD rr 0) HD.out.ten (by have:=HR.out.2.1;omega) rfl rfl rfl;rw [← HR.out.2.1] at hp;have HP:=Lib.hid hp;clear hp
    generalize nn / 2 ^ k = d at *
    generalize nn % 2 ^ k = m at *
    generalize ds.getD rr 0 = c at *
    generalize hg : g wn = gv at *
    have HWN:=Lib.hid HR.out.2.1;clear hg;go_wp2;go_roundw
    case rel =>
     obtain ⟨os',g',hl',hr'⟩:=HP.out;exact ⟨rr + 1,m * 10 + c,wn + 1,os',g',by go_num,by go_num,congrArg (Value.int .u64) (by omega),Lib.hid ⟨hr',hl'.symm,.inl hlt⟩⟩
    case measure => simp [intOf];omega
   ·have HS : Hid (RS B k (upd f 801 (.int .i64 (dp - ((r0 : Int) - 1)))) ds w wr r0 rr nn os g ∧ wn = os.length ∧ nd ≤ rr ∧ rr ≤ nd + k + 1):=Lib.hid ⟨HR.out.1,HR.out.2.1,by omega,by have:=HR.out.2.2;have:=HE.out.r;omega⟩;clear HR;go_wp2;clear k0;go_loopw [5,6,11] (fun ww n _ wx => ∃ (rr nn wn : Nat) (os : List Nat) (g : Nat → Value),ww = .int .i64 wn ∧ n = .int .u64 nn ∧ Hid (RS B k (upd f 801 (.int .i64 (dp - ((r0 : Int) - 1)))) ds w wx r0 rr nn os g ∧ wn = os.length ∧ nd ≤ rr ∧ rr ≤ nd + k + 1)) (fun ww _ _ _ => 2000 - (intOf ww).toNat)
    case atStart => exact ⟨rr,nn,wn,os,g,rfl,rfl,HS⟩
    case round =>
     obtain ⟨r2,n2,w2,o2,g2,rfl,rfl,HR2⟩:=hrel;have hnl:=HR2.out.1.lt;by_cases hz : n2 = 0
     ·subst hz;(have hw2 : w2 ≤ 800:=by have:=HR2.out.1.len;have:=HR2.out.2;omega);have k2:=HR2.out.1.arr.free 800 (by omega);have k3:=HR2.out.1.arr.cell 800 (by omega);obtain ⟨hne,hh⟩:=HR2.out.1.halved (by rw [HN.out];exact HR2.out.2.2.1) dp hr1 (by omega);have hdec:=HR2.out.1.dec HD.out (by rw [← HR2.out.2.1];exact hw2) HN.out;rw [← HR2.out.2.1] at hdec;have htr:=ZeW B _ o2 (strip o2) (dp - ((r0 : Int) - 1)) (dp - ((r0 : Int) - 1)) neg tr _ (HR2.out.1.arr.set (i:=800) (by omega) (.int .i64 w2)) hdec rfl (if_neg hne);have HTR:=Lib.hid htr;have HMD : Hid (∀ w',Made B (wr.setCell ⟨B,800,none⟩ (.int .i64 w2)) w' (strip o2) (dp - ((r0 : Int) - 1)) neg tr → ZdZ B w w' k ds dp neg tr):=Lib.hid (fun w' hm => ⟨_,_,hm.after (HR2.out.1.bel.setCell (p:=⟨B,800,none⟩) (Nat.le_refl B) _),hh⟩);clear htr hdec hh hne HR2
      generalize g2 800 = gv at *
      go_wp2_with (go_at_call 149;((with_reducible refine HTR.out.mono ?_);rintro e w' ⟨rfl,HM⟩));go_end0;exact ⟨rfl,HMD.out _ HM⟩
     ·have hle:=HR2.out.1.ends hz (by rw [HN.out];exact HR2.out.2.2.2);rw [HN.out] at hle;(have hw2 : w2 < 800:=by have:=HR2.out.1.len;have:=HR2.out.2.1;omega);have k2:=HR2.out.1.arr.free w2 (by omega);have k3:=HR2.out.1.arr.cell w2 (by omega);(have e1 : (n2 : Int) / 2 ^ k = ((n2 / 2 ^ k : Nat) : Int):=by rw [Int.natCast_ediv,ZcT]);(have e2 : Go.bits .and .u64 (n2 : Int) ((K : Int) - 1) = ((n2 % 2 ^ k : Nat) : Int):=by have:=Zkz n2 k (by omega) hK60;rw [HKK.out] at this ⊢;exact this);have hm:=Nat.mod_lt n2 hKp;(have hm60 : n2 % 2 ^ k < 1152921504606846976:=by omega);have hdl : n2 / 2 ^ k < 10:=Nat.div_lt_of_lt_mul (by rw [Nat.mul_comm];exact hnl);have hp:=HR2.out.1.put (d:=n2 / 2 ^ k) (m:=n2 % 2 ^ k) (c:=0) HD.out.ten (by have:=HR2.out.2.1;omega) rfl rfl (ZbD _ (by have:=HR2.out.2.2.1;have:=HN.out;omega));rw [← HR2.out.2.1] at hp;have HP:=Lib.hid hp;clear hp;have HW : Hid (nd ≤ r2 + 1 ∧ r2 + 1 ≤ nd + k + 1):=Lib.hid ⟨by have:=HR2.out.2.2.1;omega,by omega⟩;have hpos : decide ((0 : Int) < (n2 : Int)) = true:=decide_eq_true (by omega)
      generalize n2 / 2 ^ k = d at *
      generalize n2 % 2 ^ k = m at *
      generalize g2 w2 = gv at *
      clear hle HR2;go_wp2;go_roundw
      case rel =>
       obtain ⟨os',g',hl',hr'⟩:=HP.out;exact ⟨r2 + 1,m * 10 + 0,w2 + 1,os',g',by go_num,congrArg (Value.int .u64) (by omega),Lib.hid ⟨hr',hl'.symm,HW.out⟩⟩
      case measure => simp [intOf];omega
def Zf4 : List Nat → List Nat → Bool
 | _,[] => false
 | [],_ :: _ => true
 | b :: bs,c :: cs => if b = c then Zf4 bs cs else decide (b < c)
theorem Zk7 (ds cs : List Nat) (i : Nat) (h1 : i < ds.length) (h2 : i < cs.length) : Zf4 (ds.drop i) (cs.drop i) = if ds.getD i 0 = cs.getD i 0 then Zf4 (ds.drop (i + 1)) (cs.drop (i + 1)) else decide (ds.getD i 0 < cs.getD i 0):=by
 rw [List.drop_eq_getElem_cons h1,List.drop_eq_getElem_cons h2];(have e1 : ds.getD i 0 = ds[i]:=by simp [List.getD,List.getElem?_eq_getElem h1]);(have e2 : cs.getD i 0 = cs[i]:=by simp [List.getD,List.getElem?_eq_getElem h2]);rw [e1,e2];rfl
set_option maxHeartbeats 1000000 in
theorem Ziu (B cap : Nat) (f : Nat → Value) (ds cs : List Nat) (dp : Int) (neg tr r : Bool) (s : ByteArray) (w : World) (ha : Arr w B f) (hd : Dec f ds dp neg tr) (hs : cs.length = s.size) (hsl : s.size ≤ 800) (hc : ∀ i (h : i < s.size),s[i].toNat = 48 + cs.getD i 0) (hct : ∀ i,cs.getD i 0 < 10) (hr : Zf4 ds cs = r) :
  Calls Tryz.prog 148 #[.slice (some ⟨B,0,none⟩) ds.length cap,.string s] w fun e w' => e = .returned (.bool r) ∧ ∃ n,w' = w.drewN n:=by
 have HA:=Lib.hid ha;have HD:=Lib.hid hd;have HS:=Lib.hid hs;have HC:=Lib.hid hc;have HR:=Lib.hid hr;have hlen:=hd.len;clear ha hd hs hc hr
 generalize hn : ds.length = nd at *
 have HN:=Lib.hid hn;clear hn;go_enter Tryz.func148,Tryz.ntmps148;go_wp2;go_loopw [5] (fun i wr => ∃ k n : Nat,i = .int .i64 k ∧ wr = w.drewN n ∧ Hid (k ≤ nd ∧ k ≤ s.size ∧ Zf4 (ds.drop k) (cs.drop k) = r)) (fun i _ => s.size - (intOf i).toNat)
 case atStart => exact ⟨0,0,rfl,rfl,Lib.hid ⟨Nat.zero_le _,Nat.zero_le _,HR.out⟩⟩
 case round =>
  obtain ⟨k,n,rfl,rfl,HK⟩:=hrel;have hk1 : k ≤ nd:=HK.out.1;have hk2 : k ≤ s.size:=HK.out.2.1;by_cases h1 : k < s.size
  ·by_cases h2 : k < nd
   ·have c0 : w.cell? ⟨B,k,none⟩ = some (.int .u8 ((48 + ds.getD k 0 : Nat) : Int)):=(HA.out.cell k (by omega)).trans (congrArg some (HD.out.dig k (by rw [HN.out];exact h2)));have c1:=HC.out k h1;have d1:=HD.out.ten k;have d2:=hct k;have hp:=Zk7 ds cs k (by rw [HN.out];exact h2) (by rw [HS.out];exact h1);rw [HK.out.2.2] at hp
    generalize ds.getD k 0 = a at *
    generalize cs.getD k 0 = b at *
    by_cases h3 : a = b
    ·subst h3;rw [if_pos rfl] at hp;have HP:=Lib.hid hp;(have c2 : (((48 + a : Nat) : Int) != ((48 + a : Nat) : Int)) = false:=by simp);clear hp;go_wp2;go_quiet (fail);go_wp2;go_roundw
     case rel => exact ⟨k + 1,_,by go_num,rfl,Lib.hid ⟨h2,h1,HP.out.symm⟩⟩
     case measure => simp [intOf];omega
    ·rw [if_neg h3] at hp;(have c2 : (((48 + a : Nat) : Int) != ((48 + b : Nat) : Int)) = true:=by rw [bne_iff_ne];omega);have c4 : decide (a < b) = r:=hp.symm;(have c3 : decide (((48 + a : Nat) : Int) < ((48 + b : Nat) : Int)) = r:=by rw [hp];exact decide_eq_decide.2 (by omega));clear hp;go_wp2;go_quiet (fail);go_wp2;go_quiet (fail);go_wp2;go_ret;exact ⟨rfl,_,by rw [World.drewN_drewN,World.drewN_drewN]⟩
   ·have hr : r = true:=by
     rw [← HK.out.2.2,List.drop_eq_nil_of_le (by rw [HN.out];omega),List.drop_eq_getElem_cons (by rw [HS.out];exact h1)];rfl
    subst hr;go_wp2;go_ret;exact ⟨rfl,_,rfl⟩
  ·have hr : r = false:=by
    rw [← HK.out.2.2,List.drop_eq_nil_of_le (show cs.length ≤ k by rw [HS.out];omega)];cases ds.drop k <;> rfl
   subst hr;go_wp2;go_ret;exact ⟨rfl,_,rfl⟩
theorem Zb7 (d : Nat) (l : List Nat) : numL (d :: l) = d * 10 ^ l.length + numL l:=by
 have h : ∀ (l : List Nat) (a : Nat),l.foldl (fun a d => a * 10 + d) a = a * 10 ^ l.length + numL l:=by
  intro l
  induction l with
  | nil => intro a;simp [numL]
  | cons c l ih =>
   intro a;unfold numL;rw [List.foldl_cons,List.foldl_cons,ih,ih (0 * 10 + c),List.length_cons,Nat.pow_succ,Nat.add_mul];simp only [Nat.zero_mul,Nat.zero_add];(have : a * 10 * 10 ^ l.length = a * (10 ^ l.length * 10):=by ac_rfl);omega
 have e : numL (d :: l) = l.foldl (fun a d => a * 10 + d) (0 * 10 + d):=rfl;rw [e,h,Nat.zero_mul,Nat.zero_add]
theorem Zel (ds : List Nat) (h : ∀ i,ds.getD i 0 < 10) : numL ds < 10 ^ ds.length:=by
 have e : ∀ r,pre ds r < 10 ^ r:=by
  intro r
  induction r with
  | zero => exact Nat.one_pos
  | succ r ih => rw [pre,Nat.pow_succ];have:=h r;omega
 rw [← Ze5];exact e _
theorem ZoF (ds : List Nat) (r : Nat) (h : r < ds.length) : numL (ds.drop r) = ds.getD r 0 * 10 ^ (ds.length - (r + 1)) + numL (ds.drop (r + 1)):=by
 rw [List.drop_eq_getElem_cons h,Zb7,List.length_drop];simp [List.getD,List.getElem?_eq_getElem h]
structure LS (B : Nat) (f : Nat → Value) (N : Nat) (w wr : World) (ww nn V : Nat) (os : List Nat) (g : Nat → Value) : Prop where
 len : ww + os.length = N
 eq : numL os + nn * 10 ^ os.length = V
 ten : ∀ i,os.getD i 0 < 10
 arr : Arr wr B g
 out : ∀ i,i < os.length → g (ww + i) = .int .u8 ((48 + os.getD i 0 : Nat) : Int)
 old : ∀ i,i < ww ∨ 800 ≤ i → g i = f i
 bel : Below B w wr
theorem LS.step {B N : Nat} {f : Nat → Value} {w wr : World} {ww nn V : Nat} {os : List Nat} {g : Nat → Value} (h : LS B f N w wr (ww + 1) nn V os g) (hN : N ≤ 800) (p q c V' : Nat) (hq : p / 10 = q) (hc : p % 10 = c) (hV : numL os + p * 10 ^ os.length = V') :
  ∃ os' g',os'.length = os.length + 1 ∧ LS B f N w (wr.setCell ⟨B,ww,none⟩ (.int .u8 ((c : Int) + 48))) ww q V' os' g':=by
 have hl:=h.len;refine ⟨c :: os,upd g ww (.int .u8 ((c : Int) + 48)),rfl,by simp;omega,?_,fun i => ?_,h.arr.set (by omega) _,fun i hi => ?_,fun i hi => ?_,h.bel.setCell (p:=⟨B,ww,none⟩) (Nat.le_refl B) _⟩
 ·rw [Zb7,List.length_cons,Nat.pow_succ,← hV,show p = 10 * q + c by omega,Nat.add_mul];(have : q * (10 ^ os.length * 10) = 10 * q * 10 ^ os.length:=by ac_rfl);omega
 ·cases i with
  | zero => show c < 10;omega
  | succ i => exact h.ten i
 ·cases i with
  | zero =>
   rw [Nat.add_zero,Zcx];show _ = Value.int .u8 ((48 + c : Nat) : Int);rw [show ((48 + c : Nat) : Int) = (c : Int) + 48 by omega]
  | succ i =>
   rw [List.length_cons] at hi;rw [Zbp _ _ (by omega),show ww + (i + 1) = ww + 1 + i by omega,h.out i (by omega)];rfl
 ·rw [Zbp _ _ (by rcases hi with hi | hi <;> omega)];exact h.old i (by rcases hi with hi | hi <;> omega)
structure Zgx (k : Nat) (ds : List Nat) (dp : Int) (es : List Nat) (q : Int) : Prop where
 ne : es ≠ []
 top : es.getD 0 0 ≠ 0
 last : ∃ m d,es = m ++ [d] ∧ d ≠ 0
 val : ∃ a b : Nat,numL es * 10 ^ a = numL ds * 2 ^ k * 10 ^ b ∧ q - es.length - (dp - ds.length) = (a : Int) - b
 bnd : dp ≤ q ∧ q ≤ dp + 1000
structure ZcE (B : Nat) (w w' : World) (k : Nat) (ds : List Nat) (dp : Int) (neg tr : Bool) : Prop where mk ::
 out : ∃ es q,Made B w w' es q neg tr ∧ Zgx k ds dp es q
theorem LS.dec {B N : Nat} {f : Nat → Value} {w wr : World} {V : Nat} {os : List Nat} {g : Nat → Value} {ds : List Nat} {dp q : Int} {neg tr : Bool} (h : LS B f N w wr 0 0 V os g) (hd : Dec f ds dp neg tr) (hN : N ≤ 800) : Dec (upd (upd g 800 (.int .i64 os.length)) 801 (.int .i64 q)) os q neg tr:=by
 have hl:=h.len;refine ⟨fun i hi => ?_,h.ten,by omega,?_,Zcx ..,?_,?_⟩
 ·have:=h.out i hi;rw [Nat.zero_add] at this;rw [Zbp _ _ (by omega),Zbp _ _ (by omega)];exact this
 ·rw [Zbp _ _ (by omega),Zcx]
 ·rw [Zbp _ _ (by omega),Zbp _ _ (by omega),h.old 802 (by omega)];exact hd.ngt
 ·rw [Zbp _ _ (by omega),Zbp _ _ (by omega),h.old 803 (by omega)];exact hd.trn
theorem ZlI (f : Nat → Value) (i : Nat) (u v : Value) : upd (upd f i u) i v = upd f i v:=by
 funext j
 by_cases h : j = i
 ·subst h;rw [Zcx,Zcx]
 ·rw [Zbp _ _ h,Zbp _ _ h,Zbp _ _ h]
theorem LS.doubled {B N k dl : Nat} {f : Nat → Value} {w wr : World} {os : List Nat} {g : Nat → Value} {ds : List Nat} (h : LS B f N w wr 0 0 (numL ds * 2 ^ k) os g) (hN : N = ds.length + dl) (h1 : 1 ≤ ds.length) (hlo : 10 ^ (ds.length + dl) ≤ numL ds * 2 ^ k * 10) (dp : Int) (hdl : dl ≤ 800) : strip os ≠ [] ∧ Zgx k ds dp (strip os) (dp + dl):=by
 have e:=h.eq;rw [Nat.zero_mul,Nat.add_zero] at e;have hl:=h.len;have hp : 0 < 10 ^ (ds.length + dl):=Nat.pow_pos (by omega);have hne:=Zj5 os (by rw [e];omega)
 have htop : os.getD 0 0 ≠ 0:=by
  intro hz;rcases os with _ | ⟨c,os⟩
  ·simp at hl;omega
  ·have hc : c = 0:=hz;subst hc;have h2:=Zb7 0 os;have h3:=Zel os (fun i => h.ten (i + 1));rw [h2,Nat.zero_mul,Nat.zero_add] at e;rw [List.length_cons] at hl;rw [← e,← hN,show N = os.length + 1 by omega,Nat.pow_succ] at hlo;omega
 refine ⟨hne,hne,by rw [Zib os hne];exact htop,(ZgP os).resolve_left hne,?_,by omega,by omega⟩;obtain ⟨t,ht1,ht2⟩:=ZeZ os;exact ⟨t,0,by rw [← ht1,e,Nat.pow_zero,Nat.mul_one],by omega⟩
theorem LS.more {B N : Nat} {f : Nat → Value} {w wr : World} {ww nn V : Nat} {os : List Nat} {g : Nat → Value} (h : LS B f N w wr ww nn V os g) (hV : V < 10 ^ N) (hn : nn ≠ 0) : 1 ≤ ww:=by
 have e:=h.eq;have h1 : 1 * 10 ^ os.length ≤ nn * 10 ^ os.length:=Nat.mul_le_mul_right _ (by omega);(have h2 : 10 ^ os.length < 10 ^ N:=by omega);have:=(Nat.pow_lt_pow_iff_right (show 1 < 10 by omega)).1 h2;have:=h.len;omega
theorem LS.last {B N : Nat} {f : Nat → Value} {w wr : World} {ww V : Nat} {os : List Nat} {g : Nat → Value} (h : LS B f N w wr ww 0 V os g) (hN : 1 ≤ N) (hV : 10 ^ N ≤ V * 10) : ww = 0:=by
 have e:=h.eq;rw [Nat.zero_mul,Nat.add_zero] at e;have h1:=Zel os h.ten;obtain ⟨M,rfl⟩ : ∃ M,N = M + 1:=⟨N - 1,by omega⟩;rw [Nat.pow_succ] at hV;(have h2 : 10 ^ M < 10 ^ os.length:=by omega);have:=(Nat.pow_lt_pow_iff_right (show 1 < 10 by omega)).1 h2;have:=h.len;omega
set_option maxHeartbeats 4000000 in
set_option maxRecDepth 100000 in
theorem Zgg (B k d0 dl lb lo lc : Nat) (b : Bool) (s : ByteArray) (cs : List Nat) (f : Nat → Value) (ds : List Nat) (dp : Int) (neg tr : Bool) (w : World) (ha : Arr w B f) (hd : Dec f ds dp neg tr) (hk : k ≤ 60) (hk1 : 1 ≤ k) (h0 : ds.getD 0 0 ≠ 0) (hdp1 : -100000 ≤ dp) (hdp2 : dp ≤ 100000)
  (hl0 : w.cell? ⟨14,0,none⟩ = some (.slice (some ⟨lb,lo,none⟩) 61 lc)) (hl1 : w.cell? ⟨lb,lo + k * 2,none⟩ = some (.int .i64 d0)) (hl2 : w.cell? ⟨lb,lo + k * 2 + 1,none⟩ = some (.string s))
  (hs : cs.length = s.size) (hsl : s.size ≤ 800) (hc : ∀ i (h : i < s.size),s[i].toNat = 48 + cs.getD i 0) (hct : ∀ i,cs.getD i 0 < 10) (hb : Zf4 ds cs = b) (hdl : (dl : Int) = d0 - (b.toNat : Nat)) (hroom : ds.length + dl ≤ 800)
  (hlo : 10 ^ (ds.length + dl) ≤ numL ds * 2 ^ k * 10) (hhi : numL ds * 2 ^ k < 10 ^ (ds.length + dl)) :
  Calls Tryz.prog 143 #[.pointer (some ⟨B,0,none⟩),.int .u64 k] w fun e w' => e = .returned (.tuple #[]) ∧ ZcE B w w' k ds dp neg tr:=by
 have HA:=Lib.hid ha;have HD:=Lib.hid hd;have hlen:=hd.len;have c0 : w.cell? ⟨B,800,none⟩ = some (.int .i64 ds.length):=(ha.cell 800 (by omega)).trans (congrArg some hd.nd);have hpre:=fun W (hW : ∃ n,W = w.drewN n) => Ziu B 800 f ds cs dp neg tr b s W (by obtain ⟨n,rfl⟩:=hW;exact ha.drewN n) hd hs hsl hc hct hb;have HP:=Lib.hid hpre;have H0:=Lib.hid h0;have HL:=Lib.hid hlo;have HH:=Lib.hid hhi;have hK60 : 2 ^ k ≤ 1152921504606846976:=Nat.le_trans (Nat.pow_le_pow_right (by omega) hk) (by decide);have hKp : 0 < 2 ^ k:=Nat.pow_pos (by omega);have hb1 : b.toNat ≤ 1:=Bool.toNat_le _;(have hd0 : d0 ≤ 801:=by omega);have HDL:=Lib.hid hdl
 have hnd1 : 1 ≤ ds.length:=by
  rcases Nat.eq_zero_or_pos ds.length with h | h
  ·exact absurd (by rw [ZbD _ (by omega)]) h0
  ·exact h
 clear ha hd h0 hlo hhi hs hc hct hb hpre hdl
 generalize hn : ds.length = nd at *
 have HN:=Lib.hid hn;clear hn;go_enter Tryz.func143,Tryz.ntmps143;(have hlen2 : (nd : Int) ≤ 800:=by omega);go_upto_region 1 with fail;go_cut [30] (fun r wc => r = .bool b ∧ ∃ n,wc = w.drewN n)
 case first =>
  go_wp2;refine wp_region_quiet_lit (by kernel_rfl) (by kernel_rfl) ?_
  repeat (first | go_big_quiet_step ((go_at_call 148;refine Calls.quiet_of (HP.out _ ⟨_,rfl⟩))) | quiet_step ((go_at_call 148;refine Calls.quiet_of (HP.out _ ⟨_,rfl⟩))))
  refine wpQuiet_nil ?_;intro _ hw';obtain ⟨nq,hw''⟩:=hw';subst hw'';go_wp2;go_meet
  case rel => exact ⟨rfl,_,rfl⟩
 case rest =>
  obtain ⟨rfl,n0,rfl⟩:=hcut;(have hd2 : 0 ≤ (d0 : Int) - (b.toNat : Int):=by have:=HDL.out;omega);(have hd3 : b.toNat ≤ d0:=by omega);go_upto_if 30 with fail;go_cut [4] (fun d wc => d = .int .i64 dl ∧ wc = w.drewN n0)
  case first =>
   cases b
   ·(have hdl : (d0 : Int) = dl:=by have:=HDL.out;simp at this;omega);go_wp2;go_meet
    case rel => first | exact ⟨congrArg (Value.int .i64) hdl,rfl⟩ | exact ⟨rfl,rfl⟩
   ·(have hdl : (d0 : Int) - 1 = dl:=by have:=HDL.out;simp at this;omega);(have hd1 : 1 ≤ d0:=by omega);go_wp2;go_meet
    case rel => first | exact ⟨congrArg (Value.int .i64) hdl,rfl⟩ | exact ⟨rfl,rfl⟩
  case rest =>
   obtain ⟨rfl,rfl⟩:=hcut;go_wp2;go_loopw [5,6,7,8,9] (fun r ww n _ _ wr => ∃ (x : Int) (rr wn nn : Nat) (os : List Nat) (g : Nat → Value),r = .int .i64 x ∧ ww = .int .i64 wn ∧ n = .int .u64 nn ∧ Hid (x = (rr : Int) - 1 ∧ LS B f (nd + dl) w wr wn nn (numL (ds.drop rr) * 2 ^ k) os g ∧ os.length + rr = nd ∧ nn < 2 ^ k)) (fun r _ _ _ _ _ => (intOf r + 1).toNat)
   case atStart => exact ⟨_,nd,nd + dl,0,[],f,rfl,by go_num,rfl,Lib.hid ⟨rfl,⟨by simp,by rw [List.drop_eq_nil_of_le (by rw [HN.out];exact Nat.le_refl _)];simp [numL],fun i => by simp,HA.out.drewN n0,fun i hi => absurd hi (by simp),fun _ _ => rfl,Zac (Below.refl _ _) n0⟩,by simp,hKp⟩⟩
   case round =>
    obtain ⟨x,rr,wn,nn,os,g,rfl,rfl,rfl,HR⟩:=hrel;have hx:=HR.out.1;(have hwn : wn = rr + dl:=by have:=HR.out.2.1.len;have:=HR.out.2.2.1;omega);(have hrn : rr ≤ nd:=by have:=HR.out.2.2.1;omega);rcases Nat.eq_zero_or_pos rr with h0 | h0
    ·subst h0;(obtain rfl : x = -1:=by omega);have HV : Hid (LS B f (nd + dl) w wr wn nn (numL ds * 2 ^ k) os g):=Lib.hid (by have:=HR.out.2.1;rw [List.drop_zero] at this;exact this);have hnn:=HR.out.2.2.2;(have hn3 : nn < 1152921504606846976:=by omega);(have hwl : wn ≤ 800:=by omega);clear HR hx hwn hnn;go_wp2;go_loopw [6,7,10,11] (fun ww n _ _ wx => ∃ (wn nn : Nat) (os : List Nat) (g : Nat → Value),ww = .int .i64 wn ∧ n = .int .u64 nn ∧ Hid (LS B f (nd + dl) w wx wn nn (numL ds * 2 ^ k) os g ∧ nn < 1152921504606846976)) (fun ww _ _ _ _ => (intOf ww).toNat)
     case atStart => exact ⟨wn,nn,os,g,rfl,rfl,Lib.hid ⟨HV.out,hn3⟩⟩
     case round =>
      obtain ⟨w2,n2,o2,g2,rfl,rfl,HR2⟩:=hrel;have hn2:=HR2.out.2;(have hw2 : w2 ≤ 800:=by have:=HR2.out.1.len;omega);by_cases hz : n2 = 0
      ·subst hz;obtain rfl : w2 = 0:=HR2.out.1.last (by omega) HL.out;have k2:=HR2.out.1.arr.free 800 (by omega);have k3 : wr.cell? ⟨B,800,none⟩ = some (.int .i64 nd):=(HR2.out.1.arr.cell 800 (by omega)).trans (congrArg some (by rw [HR2.out.1.old 800 (by omega),HD.out.nd,HN.out]));have k4:=HR2.out.1.arr.free 801 (by omega);have k5 : wr.cell? ⟨B,801,none⟩ = some (.int .i64 dp):=(HR2.out.1.arr.cell 801 (by omega)).trans (congrArg some (by rw [HR2.out.1.old 801 (by omega)];exact HD.out.dpt));obtain ⟨hne,hdb⟩:=HR2.out.1.doubled (by rw [HN.out]) (by rw [HN.out];omega) (by rw [HN.out];exact HL.out) dp (by omega);(have hol : o2.length = nd + dl:=by have:=HR2.out.1.len;omega);have hdec:=HR2.out.1.dec (q:=dp + dl) HD.out hroom;rw [hol,show ((nd + dl : Nat) : Int) = (nd : Int) + (dl : Int) by omega] at hdec;have hbel:=HR2.out.1.bel;have harr:=HR2.out.1.arr;have HNE:=Lib.hid hne;have HDB:=Lib.hid hdb;have HDEC:=Lib.hid hdec;have HARR:=Lib.hid harr;have HBEL:=Lib.hid hbel;clear HR2 hne hdb hdec harr hbel hol;by_cases hge : nd + dl = 800
       ·have htr:=ZeW B _ o2 (strip o2) (dp + dl) (dp + dl) neg tr _ (((HARR.out.set (i:=800) (by omega) (.int .i64 ((nd : Int) + dl))).set (i:=800) (by omega) (.int .i64 800)).set (i:=801) (by omega) (.int .i64 (dp + dl))) (by
         rw [ZlI,show (800 : Int) = (nd : Int) + dl by omega];exact HDEC.out) rfl (if_neg HNE.out)
        have HTR:=Lib.hid htr;have HMD : Hid (∀ w',Made B (((wr.setCell ⟨B,800,none⟩ (.int .i64 ((nd : Int) + dl))).setCell ⟨B,800,none⟩ (.int .i64 800)).setCell ⟨B,801,none⟩ (.int .i64 (dp + dl))) w' (strip o2) (dp + dl) neg tr → ZcE B w w' k ds dp neg tr):=Lib.hid (fun w' hm => ⟨_,_,hm.after (((HBEL.out.setCell (p:=⟨B,800,none⟩) (Nat.le_refl B) _).setCell (p:=⟨B,800,none⟩) (Nat.le_refl B) _).setCell (p:=⟨B,801,none⟩) (Nat.le_refl B) _),HDB.out⟩);(have hge2 : 800 ≤ (nd : Int) + dl:=by omega);clear htr hge;go_wp2_with (go_at_call 149;((with_reducible refine HTR.out.mono ?_);rintro e w' ⟨rfl,HM⟩));go_end0;exact ⟨rfl,HMD.out _ HM⟩
       ·have htr:=ZeW B _ o2 (strip o2) (dp + dl) (dp + dl) neg tr _ ((HARR.out.set (i:=800) (by omega) (.int .i64 ((nd : Int) + dl))).set (i:=801) (by omega) (.int .i64 (dp + dl))) HDEC.out rfl (if_neg HNE.out);have HTR:=Lib.hid htr;have HMD : Hid (∀ w',Made B ((wr.setCell ⟨B,800,none⟩ (.int .i64 ((nd : Int) + dl))).setCell ⟨B,801,none⟩ (.int .i64 (dp + dl))) w' (strip o2) (dp + dl) neg tr → ZcE B w w' k ds dp neg tr):=Lib.hid (fun w' hm => ⟨_,_,hm.after ((HBEL.out.setCell (p:=⟨B,800,none⟩) (Nat.le_refl B) _).setCell (p:=⟨B,801,none⟩) (Nat.le_refl B) _),HDB.out⟩);(have hge2 : (nd : Int) + dl < 800:=by omega);clear htr hge;go_wp2_with (go_at_call 149;((with_reducible refine HTR.out.mono ?_);rintro e w' ⟨rfl,HM⟩));go_end0;exact ⟨rfl,HMD.out _ HM⟩
      ·have h1:=HR2.out.1.more HH.out hz;obtain ⟨v,rfl⟩ : ∃ v,w2 = v + 1:=⟨w2 - 1,by omega⟩;have k2:=HR2.out.1.arr.free v (by omega);have k3:=HR2.out.1.arr.cell v (by omega);have hst:=HR2.out.1.step hroom n2 (n2 / 10) (n2 % 10) (numL ds * 2 ^ k) rfl rfl HR2.out.1.eq;have HST:=Lib.hid hst;(have hpos : 0 < n2:=by omega);(have hvb : v < 800:=by omega);(have hq : (n2 : Int) / 10 = ((n2 / 10 : Nat) : Int):=by omega);(have hq2 : n2 / 10 < 1152921504606846976:=by omega);(have hc : (n2 : Int) - 10 * ((n2 / 10 : Nat) : Int) = ((n2 % 10 : Nat) : Int):=by omega);have hc2 : n2 % 10 < 10:=Nat.mod_lt _ (by omega);clear hst
       generalize n2 / 10 = q at *
       generalize n2 % 10 = c at *
       generalize g2 v = gv at *
       have HZ:=Lib.hid hz;clear HR2 hz;go_wp2;go_roundw
       case rel =>
        obtain ⟨os',g',hl',hr'⟩:=HST.out;exact ⟨v,q,os',g',by go_num,by first | rfl | exact congrArg (Value.int .u64) hq,Lib.hid ⟨hr',hq2⟩⟩
       case measure => first | (simp [intOf];done) | (simp [intOf];omega)
    ·obtain ⟨r,rfl⟩ : ∃ r,rr = r + 1:=⟨rr - 1,by omega⟩;(obtain rfl : x = (r : Int):=by omega);obtain ⟨v,rfl⟩ : ∃ v,wn = v + 1:=⟨wn - 1,by omega⟩;have k1 : wr.cell? ⟨B,r,none⟩ = some (.int .u8 ((48 + ds.getD r 0 : Nat) : Int)):=(HR.out.2.1.arr.cell r (by omega)).trans (congrArg some (by rw [HR.out.2.1.old r (by omega)];exact HD.out.dig r (by rw [HN.out];omega)));have k2:=HR.out.2.1.arr.free v (by omega);have k3:=HR.out.2.1.arr.cell v (by omega);have hd10:=HD.out.ten r;have hnn:=HR.out.2.2.2;have hX : ds.getD r 0 * 2 ^ k ≤ 9 * 2 ^ k:=Nat.mul_le_mul_right _ (by omega)
     have hsh : IntKind.u64.wrap (((48 : Int) + ((ds.getD r 0 : Nat) : Int) - 48) * (2 : Int) ^ k) = ((ds.getD r 0 * 2 ^ k : Nat) : Int):=by
      rw [show (48 : Int) + ((ds.getD r 0 : Nat) : Int) - 48 = ((ds.getD r 0 : Nat) : Int) by omega,wu64,← ZcT,← Int.natCast_mul];omega
     have hvb : v < 800:=by omega
     have hst:=HR.out.2.1.step (by omega) (nn + ds.getD r 0 * 2 ^ k) ((nn + ds.getD r 0 * 2 ^ k) / 10) ((nn + ds.getD r 0 * 2 ^ k) % 10) (numL (ds.drop r) * 2 ^ k) rfl rfl (by
      have e:=HR.out.2.1.eq;have hlo:=HR.out.2.2.1;rw [ZoF ds r (by rw [HN.out];omega),HN.out,show nd - (r + 1) = os.length by omega,Nat.add_mul,Nat.add_mul,← e];have : ds.getD r 0 * 2 ^ k * 10 ^ os.length = ds.getD r 0 * 10 ^ os.length * 2 ^ k:=by ac_rfl
      omega)
     have HST:=Lib.hid hst;(have hq : ((nn : Int) + ((ds.getD r 0 * 2 ^ k : Nat) : Int)) / 10 = (((nn + ds.getD r 0 * 2 ^ k) / 10 : Nat) : Int):=by omega);(have hq2 : (nn + ds.getD r 0 * 2 ^ k) / 10 < 2 ^ k:=by omega);(have hc : ((nn : Int) + ((ds.getD r 0 * 2 ^ k : Nat) : Int)) - 10 * (((nn + ds.getD r 0 * 2 ^ k) / 10 : Nat) : Int) = (((nn + ds.getD r 0 * 2 ^ k) % 10 : Nat) : Int):=by omega);have hc2 : (nn + ds.getD r 0 * 2 ^ k) % 10 < 10:=Nat.mod_lt _ (by omega);have HQ:=Lib.hid hq2;(have hX2 : ds.getD r 0 * 2 ^ k < 11529215046068469760:=by omega);(have hq3 : (nn + ds.getD r 0 * 2 ^ k) / 10 < 1152921504606846976:=by omega);(have hn3 : nn < 1152921504606846976:=by omega);clear hst hq2
     generalize (nn + ds.getD r 0 * 2 ^ k) / 10 = q at *
     generalize (nn + ds.getD r 0 * 2 ^ k) % 10 = c at *
     generalize ds.getD r 0 * 2 ^ k = X at *
     generalize ds.getD r 0 = d at *
     generalize g v = gv at *
     have HL2:=Lib.hid HR.out.2.2.1;clear HR hx hwn hX hnn;go_wp2;go_roundw
     case rel =>
      obtain ⟨os',g',hl',hr'⟩:=HST.out;exact ⟨_,r,v,q,os',g',rfl,by go_num,by first | rfl | exact congrArg (Value.int .u64) hq,Lib.hid ⟨rfl,hr',by have:=HL2.out;omega,HQ.out⟩⟩
     case measure => first | (simp [intOf];done) | (simp [intOf];omega)
def Val (ds : List Nat) (dp : Int) (D : Nat) (z E : Int) : Prop := ∃ a b l n : Nat,dp - ds.length = E + a - b ∧ z = (l : Int) - n ∧ numL ds * 10 ^ a * 2 ^ n = D * 2 ^ l * 10 ^ b
structure Good (ds : List Nat) : Prop where
 ne : ds ≠ []
 top : ds.getD 0 0 ≠ 0
 last : ∃ m d,ds = m ++ [d] ∧ d ≠ 0
theorem Zi8.val' {k : Nat} {ds es : List Nat} {dp q : Int} (h : Zi8 k ds dp es q) {D : Nat} {z E : Int} (hv : Val ds dp D z E) : Val es q D (z - k) E:=by
 obtain ⟨a,b,l,n,h1,h2,h3⟩:=hv;obtain ⟨c,e,h4,h5⟩:=h.val;refine ⟨a + c,b + e,l,n + k,by omega,by omega,?_⟩
 calc numL es * 10 ^ (a + c) * 2 ^ (n + k) = (numL es * 2 ^ k * 10 ^ c) * 10 ^ a * 2 ^ n:=by rw [Nat.pow_add,Nat.pow_add];ac_rfl
  _ = (numL ds * 10 ^ a * 2 ^ n) * 10 ^ e:=by rw [h4];ac_rfl
  _ = D * 2 ^ l * 10 ^ (b + e):=by rw [h3,Nat.pow_add];ac_rfl
theorem Zgx.val' {k : Nat} {ds es : List Nat} {dp q : Int} (h : Zgx k ds dp es q) {D : Nat} {z E : Int} (hv : Val ds dp D z E) : Val es q D (z + k) E:=by
 obtain ⟨a,b,l,n,h1,h2,h3⟩:=hv;obtain ⟨c,e,h4,h5⟩:=h.val;refine ⟨a + c,b + e,l + k,n,by omega,by omega,?_⟩
 calc numL es * 10 ^ (a + c) * 2 ^ n = (numL es * 10 ^ c) * 10 ^ a * 2 ^ n:=by rw [Nat.pow_add];ac_rfl
  _ = (numL ds * 10 ^ a * 2 ^ n) * 2 ^ k * 10 ^ e:=by rw [h4];ac_rfl
  _ = D * 2 ^ (l + k) * 10 ^ (b + e):=by rw [h3,Nat.pow_add,Nat.pow_add];ac_rfl
theorem Zkn {ds : List Nat} (h : Good ds) (hten : ∀ i,ds.getD i 0 < 10) : numL ds % 10 ≠ 0:=by
 obtain ⟨m,d,rfl,hd⟩:=h.last;have:=hten m.length;rw [Zdp] at this;rw [ZeF];omega
theorem ZgN {ds : List Nat} (h : Good ds) : 10 ^ (ds.length - 1) ≤ numL ds:=by
 rcases ds with _ | ⟨c,l⟩
 ·exact absurd rfl h.ne
 ·rw [Zb7,List.length_cons,Nat.add_sub_cancel];(have hc : 1 ≤ c:=by have:=h.top;show 0 < c;exact Nat.pos_of_ne_zero this);have : 1 * 10 ^ l.length ≤ c * 10 ^ l.length:=Nat.mul_le_mul_right _ hc;omega
theorem ZlG {ds : List Nat} {dp : Int} {D : Nat} {z E : Int} (hg : Good ds) (hten : ∀ i,ds.getD i 0 < 10) (hv : Val ds dp D z E) : numL ds ≤ D * 2 ^ z.toNat * 5 ^ (-z).toNat:=by
 obtain ⟨a,b,l,n,_,h2,h3⟩:=hv;have hm:=Zkn hg hten
 have h4 : numL ds * 10 ^ a * 2 ^ (-z).toNat = D * 2 ^ z.toNat * 10 ^ b:=by
  rcases Nat.le_total l n with h | h
  ·obtain ⟨t,rfl⟩:=Nat.le.dest h;rw [show (-z).toNat = t by omega,show z.toNat = 0 by omega,Nat.pow_zero,Nat.mul_one];apply Nat.eq_of_mul_eq_mul_right (Nat.pow_pos (n:=l) (show 0 < 2 by omega))
   calc numL ds * 10 ^ a * 2 ^ t * 2 ^ l = numL ds * 10 ^ a * 2 ^ (l + t):=by rw [Nat.pow_add];ac_rfl
    _ = D * 10 ^ b * 2 ^ l:=by rw [h3];ac_rfl
  ·obtain ⟨t,rfl⟩:=Nat.le.dest h;rw [show (-z).toNat = 0 by omega,show z.toNat = t by omega,Nat.pow_zero,Nat.mul_one];apply Nat.eq_of_mul_eq_mul_right (Nat.pow_pos (n:=n) (show 0 < 2 by omega));rw [h3,Nat.pow_add];ac_rfl
 generalize (-z).toNat = n' at *
 generalize D * 2 ^ z.toNat = Y at *
 have h5 : numL ds * 10 ^ (a + n') = Y * 5 ^ n' * 10 ^ b:=by
  calc numL ds * 10 ^ (a + n') = numL ds * 10 ^ a * 2 ^ n' * 5 ^ n':=by rw [Nat.pow_add,show (10 : Nat) ^ n' = 2 ^ n' * 5 ^ n' by rw [← Nat.mul_pow]];ac_rfl
   _ = Y * 5 ^ n' * 10 ^ b:=by rw [h4];ac_rfl
 rcases Nat.lt_or_ge (a + n') b with h | h
 ·exfalso;obtain ⟨t,rfl⟩:=Nat.le.dest h
  have h6 : numL ds = Y * 5 ^ n' * 10 ^ (t + 1):=by
   apply Nat.eq_of_mul_eq_mul_right (Nat.pow_pos (n:=a + n') (show 0 < 10 by omega));rw [h5,show (a + n').succ + t = (t + 1) + (a + n') by omega,Nat.pow_add];ac_rfl
  rw [h6,Nat.pow_succ,← Nat.mul_assoc] at hm;exact hm (Nat.mul_mod_left _ _)
 ·obtain ⟨t,ht⟩:=Nat.le.dest h;rw [← ht] at h5
  have h6 : numL ds * 10 ^ t = Y * 5 ^ n':=by
   apply Nat.eq_of_mul_eq_mul_right (Nat.pow_pos (n:=b) (show 0 < 10 by omega));rw [← h5,Nat.pow_add];ac_rfl
  rw [← h6];exact Nat.le_mul_of_pos_right _ (Nat.pow_pos (by omega))
theorem ZmV {ds : List Nat} {X M : Nat} (hg : Good ds) (h : numL ds ≤ X) (hX : X < 10 ^ M) : ds.length ≤ M:=by
 have h1:=ZgN hg;(have h2 : 10 ^ (ds.length - 1) < 10 ^ M:=by omega);have:=(Nat.pow_lt_pow_iff_right (show 1 < 10 by omega)).1 h2;omega
theorem all_ten {ds : List Nat} (h : ∀ i,ds.getD i 0 < 10) : ∀ d ∈ ds,d < 10:=by
 intro d hd;obtain ⟨i,hi,rfl⟩:=List.mem_iff_getElem.1 hd;have:=h i
 simpa [List.getD,List.getElem?_eq_getElem hi] using this
theorem Zhl {ds : List Nat} (h : ∀ d ∈ ds,d < 10) : ∀ i,ds.getD i 0 < 10:=by
 intro i;by_cases hi : i < ds.length
 ·simp only [List.getD,List.getElem?_eq_getElem hi,Option.getD_some];exact h _ (List.getElem_mem hi)
 ·rw [ZbD _ (by omega)];omega
def endB : List Nat → Bool
 | [] => true
 | [d] => d != 0
 | _ :: l => endB l
theorem Znf (c : Nat) (l : List Nat) (h : endB (c :: l) = true) : endB l = true:=by
 cases l with
 | nil => rfl
 | cons d l => exact h
theorem ZoD (c : Nat) (l : List Nat) (h : endB (c :: l) = true) : 0 < numL (c :: l):=by
 induction l generalizing c with
 | nil =>
  (have : c ≠ 0:=by simpa [endB] using h);rw [Zb7];simp;omega
 | cons d l ih => rw [Zb7];have:=ih d h;omega
theorem Zmv (cs ds : List Nat) (hd : ∀ d ∈ ds,d < 10) (hc : ∀ d ∈ cs,d < 10) (he : endB cs = true) : Zf4 ds cs = decide (numL ds * 10 ^ cs.length < numL cs * 10 ^ ds.length):=by
 induction cs generalizing ds with
 | nil =>
  rw [decide_eq_false (by show ¬ _ < 0 * _;rw [Nat.zero_mul];omega)];cases ds <;> rfl
 | cons c cs ih =>
  cases ds with
  | nil =>
   have:=ZoD c cs he;rw [decide_eq_true (by show 0 * _ < _ * 10 ^ 0;rw [Nat.zero_mul,Nat.pow_zero,Nat.mul_one];exact this)];rfl
  | cons b bs =>
   have hx:=Zel bs (Zhl (fun d h => hd d (List.mem_cons_of_mem _ h)));have hy:=Zel cs (Zhl (fun d h => hc d (List.mem_cons_of_mem _ h)));have ihh:=ih bs (fun d h => hd d (List.mem_cons_of_mem _ h)) (fun d h => hc d (List.mem_cons_of_mem _ h)) (Znf c cs he)
   have e0 : Zf4 (b :: bs) (c :: cs) = if b = c then Zf4 bs cs else decide (b < c):=rfl
   rw [e0,ihh,Zb7,Zb7,List.length_cons,List.length_cons,Nat.pow_succ,Nat.pow_succ]
   generalize numL bs = x at *
   generalize numL cs = y at *
   have hm : 0 < 10 ^ bs.length:=Nat.pow_pos (by omega);have hn : 0 < 10 ^ cs.length:=Nat.pow_pos (by omega)
   generalize 10 ^ bs.length = M at *
   generalize 10 ^ cs.length = N at *
   have p1 : x * N < M * N:=Nat.mul_lt_mul_of_pos_right hx hn;have p2 : y * M < N * M:=Nat.mul_lt_mul_of_pos_right hy hm;(have q1 : (b * M + x) * (N * 10) = 10 * (b * (M * N)) + 10 * (x * N):=by rw [Nat.add_mul];congr 1 <;> ac_rfl);(have q2 : (c * N + y) * (M * 10) = 10 * (c * (M * N)) + 10 * (y * M):=by rw [Nat.add_mul];congr 1 <;> ac_rfl);rw [q1,q2];rw [Nat.mul_comm N M] at p2;by_cases hbc : b = c
   ·subst hbc;rw [if_pos rfl];exact decide_eq_decide.2 (by omega)
   ·rw [if_neg hbc];apply decide_eq_decide.2;rcases Nat.lt_or_gt_of_ne hbc with h | h
    ·have : (b + 1) * (M * N) ≤ c * (M * N):=Nat.mul_le_mul_right _ h;rw [Nat.add_mul,Nat.one_mul] at this
     generalize b * (M * N) = u at *
     generalize c * (M * N) = v at *
     constructor
     ·intro _;omega
     ·intro _;exact h
    ·have : (c + 1) * (M * N) ≤ b * (M * N):=Nat.mul_le_mul_right _ h;rw [Nat.add_mul,Nat.one_mul] at this
     generalize b * (M * N) = u at *
     generalize c * (M * N) = v at *
     constructor
     ·intro _;omega
     ·intro _;omega
structure ZoW (k d0 : Nat) (cs : List Nat) : Prop where
 five : numL cs = 5 ^ k
 ten : ∀ d ∈ cs,d < 10
 fin : endB cs = true
 big : 10 ^ cs.length ≤ 5 ^ k * 10
 d : d0 + cs.length = k + 1
theorem ZoW.range {k d0 : Nat} {cs ds : List Nat} (h : ZoW k d0 cs) (hk : 1 ≤ k) (hg : ds.getD 0 0 ≠ 0) (hten : ∀ i,ds.getD i 0 < 10) :
  ∃ dl : Nat,(dl : Int) = d0 - ((Zf4 ds cs).toNat : Nat) ∧ dl ≤ k ∧ 10 ^ (ds.length + dl) ≤ numL ds * 2 ^ k * 10 ∧ numL ds * 2 ^ k < 10 ^ (ds.length + dl):=by
 have h5:=h.five;have hlt:=Zel cs (Zhl h.ten);rw [h5] at hlt;have hbig:=h.big;have hx:=Zel ds hten
 have hx1 : 10 ^ ds.length ≤ numL ds * 10:=by
  rcases ds with _ | ⟨c,l⟩
  ·exact absurd rfl hg
  ·rw [Zb7,List.length_cons,Nat.pow_succ];have hc : 1 ≤ c:=Nat.pos_of_ne_zero hg;have : 1 * 10 ^ l.length ≤ c * 10 ^ l.length:=Nat.mul_le_mul_right _ hc;omega
 have hp:=Zmv cs ds (all_ten hten) h.ten h.fin;rw [h5] at hp;have h10 : (10 : Nat) ^ k = 2 ^ k * 5 ^ k:=by rw [← Nat.mul_pow]
 have hm : cs.length ≤ k:=by
  rcases Nat.lt_or_ge k cs.length with hh | hh
  ·exfalso;have h1 : (10 : Nat) ^ (k + 1) ≤ 10 ^ cs.length:=Nat.pow_le_pow_right (by omega) hh
   have h2 : 2 * 5 ^ k ≤ 2 ^ k * 5 ^ k:=Nat.mul_le_mul_right _ (by
    obtain ⟨j,rfl⟩ : ∃ j,k = j + 1:=⟨k - 1,by omega⟩;rw [Nat.pow_succ];have : 0 < 2 ^ j:=Nat.pow_pos (by omega)
    omega)
   have : 0 < 5 ^ k:=Nat.pow_pos (by omega);rw [Nat.pow_succ,h10] at h1;omega
  ·exact hh
 have hm1 : 1 ≤ cs.length:=by
  rcases Nat.eq_zero_or_pos cs.length with h0 | h0
  ·exfalso;rw [h0,Nat.pow_zero] at hlt;have : 0 < 5 ^ k:=Nat.pow_pos (by omega);omega
  ·exact h0
 have hd:=h.d;obtain ⟨j,hj⟩ : ∃ j,k = cs.length + j:=⟨k - cs.length,by omega⟩;have hpm : 0 < 10 ^ cs.length:=Nat.pow_pos (by omega);(have hj10 : (10 : Nat) ^ k = 10 ^ cs.length * 10 ^ j:=by rw [← Nat.pow_add,← hj]);have hpn : 0 < 10 ^ ds.length:=Nat.pow_pos (by omega)
 generalize numL ds = x at *
 generalize hM : 10 ^ cs.length = M at *
 generalize hNd : 10 ^ ds.length = Nd at *
 generalize hJ : 10 ^ j = J at *
 generalize hT : 2 ^ k = T at *
 generalize hF : 5 ^ k = F at *
 rw [hj10] at h10;(have hJp : 0 < J:=by rw [← hJ];exact Nat.pow_pos (by omega));(have hTp : 0 < T:=by rw [← hT];exact Nat.pow_pos (by omega));by_cases hl : x * M < F * Nd
 ·rw [decide_eq_true hl] at hp;refine ⟨j,by rw [hp];simp;omega,by omega,?_,?_⟩
  ·rw [Nat.pow_add,hNd,hJ]
   have h1 : M * J < M * T:=by
    rw [h10,Nat.mul_comm M T];exact Nat.mul_lt_mul_of_pos_left hlt hTp
   have h2 : J < T:=Nat.lt_of_mul_lt_mul_left h1
   calc Nd * J ≤ Nd * T:=Nat.mul_le_mul_left _ (Nat.le_of_lt h2)
    _ ≤ x * 10 * T:=Nat.mul_le_mul_right _ hx1
    _ = x * T * 10:=by ac_rfl
  ·rw [Nat.pow_add,hNd,hJ]
   have h1 : x * T * M < Nd * J * M:=by
    calc x * T * M = x * M * T:=by ac_rfl
     _ < F * Nd * T:=Nat.mul_lt_mul_of_pos_right hl hTp
     _ = Nd * (T * F):=by ac_rfl
     _ = Nd * J * M:=by rw [← h10];ac_rfl
   exact Nat.lt_of_mul_lt_mul_right h1
 ·rw [decide_eq_false hl] at hp;refine ⟨j + 1,by rw [hp];simp;omega,by omega,?_,?_⟩
  ·rw [Nat.pow_add,hNd,Nat.pow_succ,hJ,← Nat.mul_assoc];apply Nat.mul_le_mul_right
   have h1 : Nd * J * M ≤ x * T * M:=by
    calc Nd * J * M = Nd * (M * J):=by ac_rfl
     _ = F * Nd * T:=by rw [h10];ac_rfl
     _ ≤ x * M * T:=Nat.mul_le_mul_right _ (by omega)
     _ = x * T * M:=by ac_rfl
   exact Nat.le_of_mul_le_mul_right h1 hpm
  ·rw [Nat.pow_add,hNd,Nat.pow_succ,hJ];have h1 : x * T < Nd * T:=Nat.mul_lt_mul_of_pos_right hx hTp
   have h2 : T * M ≤ J * 10 * M:=by
    calc T * M ≤ T * (F * 10):=Nat.mul_le_mul_left _ hbig
     _ = M * J * 10:=by rw [h10];ac_rfl
     _ = J * 10 * M:=by ac_rfl
   have h3 : T ≤ J * 10:=Nat.le_of_mul_le_mul_right h2 hpm;exact Nat.lt_of_lt_of_le h1 (Nat.mul_le_mul_left _ h3)
structure Zc7 (w : World) (B : Nat) : Prop where mk ::
 out : ∃ lb lo lc : Nat,lb < B ∧ 14 < B ∧ w.cell? ⟨14,0,none⟩ = some (.slice (some ⟨lb,lo,none⟩) 61 lc) ∧
  ∀ k,1 ≤ k → k ≤ 60 → ∃ (d0 : Nat) (s : ByteArray) (cs : List Nat),w.cell? ⟨lb,lo + k * 2,none⟩ = some (.int .i64 d0) ∧ w.cell? ⟨lb,lo + k * 2 + 1,none⟩ = some (.string s) ∧ ZoW k d0 cs ∧ cs.length = s.size ∧ s.size ≤ 100 ∧ (∀ i (h : i < s.size),s[i].toNat = 48 + cs.getD i 0) ∧ d0 ≤ 19
theorem Zc7.below {w w' : World} {B : Nat} (h : Zc7 w B) (hb : Below B w w') : Zc7 w' B:=by
 obtain ⟨lb,lo,lc,h1,h2,h3,h4⟩:=h;refine ⟨lb,lo,lc,h1,h2,(hb.cell (p:=⟨_,0,none⟩) h2).trans h3,fun k k1 k2 => ?_⟩;obtain ⟨d0,s,cs,a1,a2,a3⟩:=h4 k k1 k2;exact ⟨d0,s,cs,(hb.cell (p:=⟨lb,_,none⟩) h1).trans a1,(hb.cell (p:=⟨lb,_,none⟩) h1).trans a2,a3⟩
theorem ZeL {w : World} {B k : Nat} (hc : Zc7 w B) {f : Nat → Value} {ds : List Nat} {dp : Int} {neg tr : Bool} (ha : Arr w B f) (hd : Dec f ds dp neg tr) (hk : k ≤ 60) (hk1 : 1 ≤ k) (h0 : ds.getD 0 0 ≠ 0) (hroom : ds.length + min k 19 ≤ 800) (hdp1 : -100000 ≤ dp) (hdp2 : dp ≤ 100000) :
  Calls Tryz.prog 143 #[.pointer (some ⟨B,0,none⟩),.int .u64 k] w fun e w' => e = .returned (.tuple #[]) ∧ ZcE B w w' k ds dp neg tr:=by
 obtain ⟨lb,lo,lc,h1,h2,h3,h4⟩:=hc;obtain ⟨d0,s,cs,a1,a2,a3,a4,a5,a6,a7⟩:=h4 k hk1 hk;obtain ⟨dl,b1,b2,b3,b4⟩:=a3.range hk1 h0 hd.ten;exact Zgg B k d0 dl lb lo lc (Zf4 ds cs) s cs f ds dp neg tr w ha hd hk hk1 h0 hdp1 hdp2 h3 a1 a2 a4 (by omega) a6 (Zhl a3.ten) rfl b1 (by omega) b3 b4
theorem Good.Zf8 {k : Nat} {ds es : List Nat} {dp q : Int} (h : Zi8 k ds dp es q) : Good es:=⟨h.ne,h.top,h.last⟩
theorem Good.Zfb {k : Nat} {ds es : List Nat} {dp q : Int} (h : Zgx k ds dp es q) : Good es:=⟨h.ne,h.top,h.last⟩
structure ZdQ (B : Nat) (w w' : World) (D : Nat) (z E : Int) (neg tr : Bool) (lo hi : Int) : Prop where mk ::
 out : ∃ es q,Made B w w' es q neg tr ∧ Good es ∧ Val es q D z E ∧ lo ≤ q ∧ q ≤ hi
theorem ZcE.shift {B : Nat} {w wm w' : World} {k : Nat} {ds : List Nat} {dp : Int} {neg tr : Bool} (h : ZcE B wm w' k ds dp neg tr) (hb : Below B w wm) {D : Nat} {z E : Int} (hv : Val ds dp D z E) : ZdQ B w w' D (z + k) E neg tr dp (dp + 1000):=by
 obtain ⟨es,q,h1,h2⟩:=h;exact ⟨es,q,h1.after hb,Good.Zfb h2,h2.val' hv,h2.bnd⟩
theorem ZdZ.shift {B : Nat} {w wm w' : World} {k : Nat} {ds : List Nat} {dp : Int} {neg tr : Bool} (h : ZdZ B wm w' k ds dp neg tr) (hb : Below B w wm) {D : Nat} {z E : Int} (hv : Val ds dp D z E) : ZdQ B w w' D (z - k) E neg tr (dp - 1000) dp:=by
 obtain ⟨es,q,h1,h2⟩:=h;exact ⟨es,q,h1.after hb,Good.Zf8 h2,h2.val' hv,h2.bnd⟩
set_option maxHeartbeats 2000000 in
theorem Zlx (B : Nat) (K : Nat) (f : Nat → Value) (ds : List Nat) (dp : Int) (D : Nat) (z E : Int) (neg tr : Bool) (w : World) (hc : Zc7 w B) (ha : Arr w B f) (hd : Dec f ds dp neg tr) (hK1 : 1 ≤ K) (hK2 : K ≤ 1200) (h0 : ds.getD 0 0 ≠ 0) (hv : Val ds dp D z E) (hroom : ds.length + min K 19 ≤ 800) (hfit : 60 < K → D * 2 ^ (z + K).toNat * 5 ^ (-z).toNat < 10 ^ 700) (hdp1 : -10000 ≤ dp) (hdp2 : dp ≤ 10000) :
  Calls Tryz.prog 136 #[.pointer (some ⟨B,0,none⟩),.int .i64 K] w fun e w' => e = .returned (.tuple #[]) ∧ ZdQ B w w' D (z + K) E neg tr dp (dp + 30000):=by
 have hne : ds.length ≠ 0:=fun h => h0 (ZbD _ (Nat.le_of_eq h));have c0 : w.cell? ⟨B,800,none⟩ = some (.int .i64 ds.length):=(ha.cell 800 (by omega)).trans (congrArg some hd.nd);(have c1 : ((ds.length : Int) == 0) = false:=by rw [beq_eq_false_iff_ne];omega);have hKb : decide (0 < K) = true:=decide_eq_true (by omega);(have hKp : 0 < K:=by omega);have HA:=Lib.hid ha;have HD:=Lib.hid hd;have HC:=Lib.hid hc;have H0:=Lib.hid h0;have HV:=Lib.hid hv;have HF:=Lib.hid hfit;have HRM:=Lib.hid hroom;clear ha hd hc h0 hv hne hfit hroom
 generalize hn : ds.length = nd at *
 have HN:=Lib.hid hn;clear hn;go_enter Tryz.func136,Tryz.ntmps136;go_wp2;go_loopw [1] (fun x wr => ∃ (i kk : Nat) (es : List Nat) (g : Nat → Value) (q : Int),x = .int .i64 kk ∧ Hid (60 * i + kk = K ∧ 1 ≤ kk ∧ Arr wr B g ∧ Dec g es q neg tr ∧ es.getD 0 0 ≠ 0 ∧ Val es q D (z + (60 * i : Nat)) E ∧ Below B w wr ∧ es.length + min kk 19 ≤ 800 ∧ dp ≤ q ∧ q ≤ dp + 1000 * i)) (fun x _ => (intOf x).toNat)
 case atStart => exact ⟨0,K,ds,f,dp,rfl,Lib.hid ⟨by omega,hK1,HA.out,HD.out,H0.out,by simpa using HV.out,Below.refl _ _,by rw [HN.out];exact HRM.out,by omega,by omega⟩⟩
 case round =>
  obtain ⟨i,kk,es,g,q,rfl,HR⟩:=hrel;have hk1 : 1 ≤ kk:=HR.out.2.1;(have hkk : kk ≤ 1200:=by have:=HR.out.1;omega);by_cases h60 : 60 < kk
  ·have hq1:=HR.out.2.2.2.2.2.2.2.2.1;have hq2:=HR.out.2.2.2.2.2.2.2.2.2;have hsum:=HR.out.1;have hcall:=ZeL (HC.out.below HR.out.2.2.2.2.2.2.1) HR.out.2.2.1 HR.out.2.2.2.1 (k:=60) (by omega) (by omega) HR.out.2.2.2.2.1 (by have:=HR.out.2.2.2.2.2.2.2.1;omega) (by omega) (by omega);rw [show ((60 : Nat) : Int) = 60 from rfl] at hcall;have HCL:=Lib.hid hcall
   have HNX : Hid (∀ w',ZcE B wr w' 60 es q neg tr → ∃ (i' : Nat) (es' : List Nat) (g' : Nat → Value) (q' : Int),60 * i' + (kk - 60) = K ∧ 1 ≤ kk - 60 ∧ Arr w' B g' ∧ Dec g' es' q' neg tr ∧ es'.getD 0 0 ≠ 0 ∧ Val es' q' D (z + (60 * i' : Nat)) E ∧ Below B w w' ∧ es'.length + min (kk - 60) 19 ≤ 800 ∧ dp ≤ q' ∧ q' ≤ dp + 1000 * i'):=Lib.hid (by
    intro w' hw';obtain ⟨es',q',⟨g',m1,m2,m3⟩,m4⟩:=hw';have hvv:=m4.val' HR.out.2.2.2.2.2.1;rw [show z + (60 * i : Nat) + (60 : Nat) = z + (60 * (i + 1) : Nat) by omega] at hvv;refine ⟨i + 1,es',g',q',by omega,by omega,m1,m2,m4.top,hvv,HR.out.2.2.2.2.2.2.1.trans m3,?_,by have:=m4.bnd;omega,by have:=m4.bnd;omega⟩;have hle:=ZlG (Good.Zfb m4) m2.ten hvv
    have hlt : es'.length ≤ 700:=ZmV (Good.Zfb m4) hle (by
     refine Nat.lt_of_le_of_lt ?_ (HF.out (by omega))
     refine Nat.mul_le_mul (Nat.mul_le_mul_left _ (Nat.pow_le_pow_right (by omega) (by omega))) (Nat.pow_le_pow_right (by omega) (by omega)))
    omega)
   clear hcall HR;go_wp2_with (go_at_call 143;((with_reducible refine HCL.out.mono ?_);rintro e w' ⟨rfl,HM⟩));go_roundw
   case rel =>
    obtain ⟨i',es',g',q',h⟩:=HNX.out _ HM;have hkq : (kk : Int) - 60 = ((kk - 60 : Nat) : Int):=by omega
    first
    | exact ⟨i',kk - 60,es',g',q',congrArg (Value.int .i64) hkq,Lib.hid h⟩
    | ((repeat apply Exists.intro);exact ⟨⟨i',kk - 60,es',g',q',congrArg (Value.int .i64) hkq,Lib.hid h⟩,rfl⟩)
   case measure => simp [intOf];omega
  ·have hq1:=HR.out.2.2.2.2.2.2.2.2.1;have hq2:=HR.out.2.2.2.2.2.2.2.2.2;have hsum:=HR.out.1;have hcall:=ZeL (HC.out.below HR.out.2.2.2.2.2.2.1) HR.out.2.2.1 HR.out.2.2.2.1 (k:=kk) (by omega) (by omega) HR.out.2.2.2.2.1 (by have:=HR.out.2.2.2.2.2.2.2.1;omega) (by omega) (by omega);have HCL:=Lib.hid hcall
   have HEND : Hid (∀ w',ZcE B wr w' kk es q neg tr → ZdQ B w w' D (z + K) E neg tr dp (dp + 30000)):=Lib.hid (by
    intro w' hw';obtain ⟨es',q',h1,h2,h3,h4⟩:=(hw'.shift HR.out.2.2.2.2.2.2.1 HR.out.2.2.2.2.2.1).out;rw [show z + (60 * i : Nat) + (kk : Nat) = z + K by omega] at h3
    exact ⟨es',q',h1,h2,h3,by omega,by omega⟩)
   clear hcall HR;(have hnot : (kk : Int) ≤ 60:=by omega);go_wp2_with (go_at_call 143;((with_reducible refine HCL.out.mono ?_);rintro e w' ⟨rfl,HM⟩));go_end0;exact ⟨rfl,HEND.out _ HM⟩
set_option maxHeartbeats 2000000 in
theorem Zgv (B : Nat) (K : Nat) (f : Nat → Value) (ds : List Nat) (dp : Int) (D : Nat) (z E : Int) (neg tr : Bool) (w : World) (ha : Arr w B f) (hd : Dec f ds dp neg tr) (hK1 : 1 ≤ K) (hK2 : K ≤ 1200) (h0 : ds.getD 0 0 ≠ 0) (hv : Val ds dp D z E) (hroom : ds.length + min K 60 ≤ 800) (hfit : ∀ j : Nat,60 ≤ j → j < K → D * 2 ^ (z - j).toNat * 5 ^ (-(z - j)).toNat < 10 ^ (800 - min (K - j) 60)) (hdp1 : -10000 ≤ dp) (hdp2 : dp ≤ 10000) :
  Calls Tryz.prog 136 #[.pointer (some ⟨B,0,none⟩),.int .i64 (-(K : Int))] w fun e w' => e = .returned (.tuple #[]) ∧ ZdQ B w w' D (z - K) E neg tr (dp - 30000) dp:=by
 have hne : ds.length ≠ 0:=fun h => h0 (ZbD _ (Nat.le_of_eq h));have c0 : w.cell? ⟨B,800,none⟩ = some (.int .i64 ds.length):=(ha.cell 800 (by omega)).trans (congrArg some hd.nd);(have c1 : ((ds.length : Int) == 0) = false:=by rw [beq_eq_false_iff_ne];omega);(have hKp : 0 < K:=by omega);have hKb : decide ((0 : Int) < -(K : Int)) = false:=decide_eq_false (by omega);have hKc : decide (-(K : Int) < 0) = true:=decide_eq_true (by omega);have HA:=Lib.hid ha;have HD:=Lib.hid hd;have H0:=Lib.hid h0;have HV:=Lib.hid hv;have HF:=Lib.hid hfit;have HRM:=Lib.hid hroom;clear ha hd h0 hv hne hfit hroom
 generalize hn : ds.length = nd at *
 have HN:=Lib.hid hn;clear hn;go_enter Tryz.func136,Tryz.ntmps136;go_wp2;go_loopw [1] (fun x wr => ∃ (i kk : Nat) (es : List Nat) (g : Nat → Value) (q : Int),x = .int .i64 (-(kk : Int)) ∧ Hid (60 * i + kk = K ∧ 1 ≤ kk ∧ Arr wr B g ∧ Dec g es q neg tr ∧ es.getD 0 0 ≠ 0 ∧ Val es q D (z - (60 * i : Nat)) E ∧ Below B w wr ∧ es.length + min kk 60 ≤ 800 ∧ dp - 1000 * i ≤ q ∧ q ≤ dp)) (fun x _ => (-(intOf x)).toNat)
 case atStart => exact ⟨0,K,ds,f,dp,rfl,Lib.hid ⟨by omega,hK1,HA.out,HD.out,H0.out,by simpa using HV.out,Below.refl _ _,by rw [HN.out];exact HRM.out,by omega,by omega⟩⟩
 case round =>
  obtain ⟨i,kk,es,g,q,rfl,HR⟩:=hrel;have hk1 : 1 ≤ kk:=HR.out.2.1;(have hkk : kk ≤ 1200:=by have:=HR.out.1;omega);by_cases h60 : 60 < kk
  ·have hq1:=HR.out.2.2.2.2.2.2.2.2.1;have hq2:=HR.out.2.2.2.2.2.2.2.2.2;have hsum:=HR.out.1;have hcall:=Zdu B 60 g es q neg tr wr HR.out.2.2.1 HR.out.2.2.2.1 (by omega) (by omega) HR.out.2.2.2.2.1 (by have:=HR.out.2.2.2.2.2.2.2.1;omega) (by omega) (by omega);rw [show ((60 : Nat) : Int) = 60 from rfl] at hcall;have HCL:=Lib.hid hcall
   have HNX : Hid (∀ w',ZdZ B wr w' 60 es q neg tr → ∃ (i' : Nat) (es' : List Nat) (g' : Nat → Value) (q' : Int),60 * i' + (kk - 60) = K ∧ 1 ≤ kk - 60 ∧ Arr w' B g' ∧ Dec g' es' q' neg tr ∧ es'.getD 0 0 ≠ 0 ∧ Val es' q' D (z - (60 * i' : Nat)) E ∧ Below B w w' ∧ es'.length + min (kk - 60) 60 ≤ 800 ∧ dp - 1000 * i' ≤ q' ∧ q' ≤ dp):=Lib.hid (by
    intro w' hw';obtain ⟨es',q',⟨g',m1,m2,m3⟩,m4⟩:=hw';have hvv:=m4.val' HR.out.2.2.2.2.2.1;rw [show z - (60 * i : Nat) - (60 : Nat) = z - (60 * (i + 1) : Nat) by omega] at hvv;refine ⟨i + 1,es',g',q',by omega,by omega,m1,m2,m4.top,hvv,HR.out.2.2.2.2.2.2.1.trans m3,?_,by have:=m4.bnd;omega,by have:=m4.bnd;omega⟩;have hle:=ZlG (Good.Zf8 m4) m2.ten hvv;have hlt : es'.length ≤ 800 - min (K - 60 * (i + 1)) 60:=ZmV (Good.Zf8 m4) hle (HF.out (60 * (i + 1)) (by omega) (by omega))
    omega)
   clear hcall HR;go_wp2_with (go_at_call 144;((with_reducible refine HCL.out.mono ?_);rintro e w' ⟨rfl,HM⟩));go_roundw
   case rel =>
    obtain ⟨i',es',g',q',h⟩:=HNX.out _ HM;have hkq : -(kk : Int) + 60 = -((kk - 60 : Nat) : Int):=by omega
    first
    | exact ⟨i',kk - 60,es',g',q',congrArg (Value.int .i64) hkq,Lib.hid h⟩
    | ((repeat apply Exists.intro);exact ⟨⟨i',kk - 60,es',g',q',congrArg (Value.int .i64) hkq,Lib.hid h⟩,rfl⟩)
   case measure => simp [intOf];omega
  ·have hq1:=HR.out.2.2.2.2.2.2.2.2.1;have hq2:=HR.out.2.2.2.2.2.2.2.2.2;have hsum:=HR.out.1;have hcall:=Zdu B kk g es q neg tr wr HR.out.2.2.1 HR.out.2.2.2.1 (by omega) (by omega) HR.out.2.2.2.2.1 (by have:=HR.out.2.2.2.2.2.2.2.1;omega) (by omega) (by omega);have HCL:=Lib.hid hcall
   have HEND : Hid (∀ w',ZdZ B wr w' kk es q neg tr → ZdQ B w w' D (z - K) E neg tr (dp - 30000) dp):=Lib.hid (by
    intro w' hw';obtain ⟨es',q',h1,h2,h3,h4⟩:=(hw'.shift HR.out.2.2.2.2.2.2.1 HR.out.2.2.2.2.2.1).out;rw [show z - (60 * i : Nat) - (kk : Nat) = z - K by omega] at h3
    exact ⟨es',q',h1,h2,h3,by omega,by omega⟩)
   clear hcall HR;(have hnot : (kk : Int) ≤ 60:=by omega);have hnn : - -(kk : Int) = (kk : Int):=Int.neg_neg _;go_wp2_with (go_at_call 144;((with_reducible refine HCL.out.mono ?_);rintro e w' ⟨rfl,HM⟩));go_end0;exact ⟨rfl,HEND.out _ HM⟩
def rup (ds : List Nat) (n : Nat) : Bool:=if ds.length ≤ n then false else if ds.getD n 0 = 5 ∧ n + 1 = ds.length then decide (0 < n ∧ ds.getD (n - 1) 0 % 2 = 1) else decide (5 ≤ ds.getD n 0)
theorem Zk2 (B n : Nat) (f : Nat → Value) (ds : List Nat) (dp : Int) (neg : Bool) (w : World) (ha : Arr w B f) (hd : Dec f ds dp neg false) (hn : ds.length ≤ n) :
  Calls Tryz.prog 145 #[.pointer (some ⟨B,0,none⟩),.int .i64 n] w fun e w' => e = .returned (.bool false) ∧ w = w':=by
 have c0 : w.cell? ⟨B,800,none⟩ = some (.int .i64 ds.length):=(ha.cell 800 (by omega)).trans (congrArg some hd.nd);clear ha hd
 generalize ds.length = nd at *
 go_enter Tryz.func145,Tryz.ntmps145;go_wp2;go_ret;exact ⟨rfl,rfl⟩
theorem Zmd (B : Nat) (n : Int) (w : World) (hn : n < 0) :
  Calls Tryz.prog 145 #[.pointer (some ⟨B,0,none⟩),.int .i64 n] w fun e w' => e = .returned (.bool false) ∧ w = w':=by
 go_enter Tryz.func145,Tryz.ntmps145;go_wp2;go_ret;exact ⟨rfl,rfl⟩
theorem Zn8 (B n : Nat) (f : Nat → Value) (ds : List Nat) (dp : Int) (neg : Bool) (w : World) (ha : Arr w B f) (hd : Dec f ds dp neg false) (hn : n < ds.length) :
  Calls Tryz.prog 145 #[.pointer (some ⟨B,0,none⟩),.int .i64 n] w fun e w' => e = .returned (.bool (rup ds n)) ∧ w = w':=by
 have hl:=hd.len;have c0 : w.cell? ⟨B,800,none⟩ = some (.int .i64 ds.length):=(ha.cell 800 (by omega)).trans (congrArg some hd.nd);have c1 : w.cell? ⟨B,n,none⟩ = some (.int .u8 ((48 + ds.getD n 0 : Nat) : Int)):=(ha.cell n (by omega)).trans (congrArg some (hd.dig n hn));have c3 : w.cell? ⟨B,803,none⟩ = some (.bool false):=(ha.cell 803 (by omega)).trans (congrArg some hd.trn);have hd10:=hd.ten n;generalize hr : rup ds n = r;unfold rup at hr;rw [if_neg (by omega)] at hr;by_cases h5 : ds.getD n 0 = 5
 ·by_cases hlast : n + 1 = ds.length
  ·rw [if_pos ⟨h5,hlast⟩] at hr;(have c4 : ((n : Int) + 1 == (ds.length : Int)) = true:=by rw [beq_iff_eq];omega);rcases Nat.eq_zero_or_pos n with h0 | h0
   ·subst h0;(have hr' : r = false:=by rw [← hr];exact decide_eq_false (by omega));subst hr';have HR:=Lib.hid hr;rw [h5] at c1;clear ha hd hr h5 hd10;(have h1 : ds.length = 1:=by omega);rw [h1] at c0 c4;go_enter Tryz.func145,Tryz.ntmps145;go_wp2;go_ret;exact ⟨rfl,rfl⟩
   ·obtain ⟨m,rfl⟩ : ∃ m,n = m + 1:=⟨n - 1,by omega⟩;have c2 : w.cell? ⟨B,m,none⟩ = some (.int .u8 ((48 + ds.getD m 0 : Nat) : Int)):=(ha.cell m (by omega)).trans (congrArg some (hd.dig m (by omega)));have hm10:=hd.ten m;rw [Nat.add_sub_cancel] at hr;rw [h5] at c1
    have hpar : ((48 + (ds.getD m 0 : Int) - 48) % 2 != 0) = r:=by
     rw [← hr,Bool.eq_iff_iff,bne_iff_ne,decide_eq_true_iff];omega
    have HR:=Lib.hid hr;clear ha hd hr h5 hd10
    generalize ds.getD m 0 = e at *
    generalize ds.length = nd at *
    go_enter Tryz.func145,Tryz.ntmps145;go_wp2;go_ret;exact ⟨rfl,rfl⟩
  ·rw [if_neg (by omega)] at hr;(have hr' : r = true:=by rw [← hr];exact decide_eq_true (by omega));subst hr';have HR:=Lib.hid hr;rw [h5] at c1;(have c4 : ((n : Int) + 1 == (ds.length : Int)) = false:=by rw [beq_eq_false_iff_ne];omega);clear ha hd hr h5 hd10
   generalize ds.length = nd at *
   go_enter Tryz.func145,Tryz.ntmps145;go_wp2;go_ret;exact ⟨rfl,rfl⟩
 ·rw [if_neg (by omega)] at hr;(have c4 : (((48 + ds.getD n 0 : Nat) : Int) == 53) = false:=by rw [beq_eq_false_iff_ne];omega);(have c5 : decide ((53 : Int) ≤ 48 + ((ds.getD n 0 : Nat) : Int)) = r:=by rw [← hr];exact decide_eq_decide.2 (by omega));have HR:=Lib.hid hr;have H5:=Lib.hid h5;clear ha hd hr h5
  generalize ds.getD n 0 = e at *
  generalize ds.length = nd at *
  go_enter Tryz.func145,Tryz.ntmps145;go_wp2;go_ret;exact ⟨rfl,rfl⟩
theorem Zme (B n : Nat) (f : Nat → Value) (ds : List Nat) (dp : Int) (neg : Bool) (w : World) (ha : Arr w B f) (hd : Dec f ds dp neg false) :
  Calls Tryz.prog 145 #[.pointer (some ⟨B,0,none⟩),.int .i64 n] w fun e w' => e = .returned (.bool (rup ds n)) ∧ w = w':=by
 by_cases h : ds.length ≤ n
 ·have e : rup ds n = false:=if_pos h;rw [e];exact Zk2 B n f ds dp neg w ha hd h
 ·exact Zn8 B n f ds dp neg w ha hd (by omega)
theorem pre_lt (ds : List Nat) (h : ∀ i,ds.getD i 0 < 10) (r : Nat) : pre ds r < 10 ^ r:=by
 induction r with
 | zero => exact Nat.one_pos
 | succ r ih => rw [pre,Nat.pow_succ];have:=h r;omega
theorem Zjm (B : Nat) (f : Nat → Value) (ds : List Nat) (dp : Int) (neg : Bool) (w : World) (ha : Arr w B f) (hd : Dec f ds dp neg false) (hdp : dp < 0) :
  Calls Tryz.prog 137 #[.pointer (some ⟨B,0,none⟩)] w fun e w' => e = .returned (.int .u64 0) ∧ w = w':=by
 have c0 : w.cell? ⟨B,800,none⟩ = some (.int .i64 ds.length):=(ha.cell 800 (by omega)).trans (congrArg some hd.nd);have c1 : w.cell? ⟨B,801,none⟩ = some (.int .i64 dp):=(ha.cell 801 (by omega)).trans (congrArg some hd.dpt);clear ha hd
 generalize ds.length = nd at *
 go_enter Tryz.func137,Tryz.ntmps137;go_wp2;go_loop [3,4] (fun i n => i = .int .i64 0 ∧ n = .int .u64 0) (fun _ _ => 0)
 case atStart => exact ⟨rfl,rfl⟩
 case round =>
  obtain ⟨rfl,rfl⟩:=hrel;go_wp2;go_loop [3,4] (fun i n => i = .int .i64 0 ∧ n = .int .u64 0) (fun _ _ => 0)
  case atStart => exact ⟨rfl,rfl⟩
  case round =>
   obtain ⟨rfl,rfl⟩:=hrel;go_wp2_with (go_at_call 145;refine (Zmd B dp _ hdp).mono ?_;rintro e w' ⟨rfl,rfl⟩);go_ret;exact ⟨rfl,rfl⟩
set_option maxHeartbeats 1000000 in
theorem Zhq (B p : Nat) (f : Nat → Value) (ds : List Nat) (neg : Bool) (w : World) (ha : Arr w B f) (hd : Dec f ds p neg false) (hp : p ≤ 18) :
  Calls Tryz.prog 137 #[.pointer (some ⟨B,0,none⟩)] w fun e w' => e = .returned (.int .u64 (pre ds p + (rup ds p).toNat : Nat)) ∧ w = w':=by
 have c0 : w.cell? ⟨B,800,none⟩ = some (.int .i64 ds.length):=(ha.cell 800 (by omega)).trans (congrArg some hd.nd);have c1 : w.cell? ⟨B,801,none⟩ = some (.int .i64 p):=(ha.cell 801 (by omega)).trans (congrArg some hd.dpt);have hlen:=hd.len;have HA:=Lib.hid ha;have HD:=Lib.hid hd;have hup:=fun W (hW : W = w) => Zme B p f ds p neg W (hW ▸ ha) hd;have hmax : ∀ k,k ≤ p → pre ds k < 1000000000000000000:=fun k hk => Nat.lt_of_lt_of_le (pre_lt ds hd.ten k) (Nat.le_trans (Nat.pow_le_pow_right (by omega) (show k ≤ 18 by omega)) (by decide));have HMX:=Lib.hid hmax;have HUP:=Lib.hid hup;clear ha hd hup hmax
 generalize hn : ds.length = nd at *
 have HN:=Lib.hid hn;clear hn;go_enter Tryz.func137,Tryz.ntmps137;go_wp2;go_loop [3,4] (fun i n => ∃ k m : Nat,i = .int .i64 k ∧ n = .int .u64 m ∧ Hid (m = pre ds k ∧ k ≤ p ∧ k ≤ nd)) (fun i _ => 20 - (intOf i).toNat)
 case atStart => exact ⟨0,0,rfl,rfl,Lib.hid ⟨rfl,by omega,by omega⟩⟩
 case round =>
  obtain ⟨k,m,rfl,rfl,HR⟩:=hrel;have hk1 : k ≤ p:=HR.out.2.1;have hk2 : k ≤ nd:=HR.out.2.2;(have hm : m < 1000000000000000000:=by rw [HR.out.1];exact HMX.out k hk1);by_cases hlt : k < p ∧ k < nd
  ·obtain ⟨h1,h2⟩:=hlt;have c2 : w.cell? ⟨B,k,none⟩ = some (.int .u8 ((48 + ds.getD k 0 : Nat) : Int)):=(HA.out.cell k (by omega)).trans (congrArg some (HD.out.dig k (by rw [HN.out];exact h2)));have hd10:=HD.out.ten k;have HV : Hid (m * 10 + ds.getD k 0 = pre ds (k + 1)):=Lib.hid (by rw [pre,HR.out.1])
   generalize ds.getD k 0 = d at *
   go_wp2;go_round
   case rel => exact ⟨k + 1,m * 10 + d,by go_num,congrArg (Value.int .u64) (by omega),Lib.hid ⟨HV.out,h1,h2⟩⟩
   case measure => simp [intOf];omega
  ·have HM0 : Hid (m = pre ds k):=Lib.hid HR.out.1;clear HR;(have hcase : k = p ∨ (k < p ∧ nd = k):=by omega);rcases hcase with h1 | ⟨h1,h2⟩
   ·obtain rfl : p = k:=h1.symm;go_wp2;go_loop [3,4] (fun i n => ∃ k m : Nat,i = .int .i64 k ∧ n = .int .u64 m ∧ Hid (m = pre ds k ∧ k ≤ p ∧ (k = p ∨ nd ≤ k))) (fun i _ => 20 - (intOf i).toNat)
    case atStart => exact ⟨_,_,rfl,rfl,Lib.hid ⟨HM0.out,by omega,by first | exact .inl rfl | exact .inr (Nat.le_refl _)⟩⟩
    case round =>
     obtain ⟨k',m',rfl,rfl,HT⟩:=hrel;have hk1' : k' ≤ p:=HT.out.2.1;(have hm' : m' < 1000000000000000000:=by rw [HT.out.1];exact HMX.out k' hk1');by_cases hlt' : k' < p
     ·have HV : Hid (m' * 10 = pre ds (k' + 1)):=Lib.hid (by rw [pre,HT.out.1,ZbD ds (by have:=HT.out.2.2;have:=HN.out;omega),Nat.add_zero]);have HV2 : Hid (k' + 1 = p ∨ nd ≤ k' + 1):=Lib.hid (by have:=HT.out.2.2;omega);go_wp2;go_round
      case rel => exact ⟨k' + 1,m' * 10,by go_num,by go_num,Lib.hid ⟨HV.out,hlt',HV2.out⟩⟩
      case measure => simp [intOf];omega
     ·(obtain rfl : p = k':=by omega);have HRES : Hid (m' = pre ds p):=Lib.hid HT.out.1;have hcl:=HUP.out w rfl;cases hb : rup ds p
      all_goals
       rw [hb] at hcl;have HCL:=Lib.hid hcl;have HB:=Lib.hid hb;clear hcl hb;go_wp2_with (go_at_call 145;((with_reducible refine HCL.out.mono ?_);rintro e w' ⟨rfl,rfl⟩));go_ret;exact ⟨congrArg (fun z : Int => Ending.returned (Value.int .u64 z)) (by have:=HRES.out;rw [HB.out];simp;omega),rfl⟩
   ·obtain rfl : nd = k:=h2;go_wp2;go_loop [3,4] (fun i n => ∃ k m : Nat,i = .int .i64 k ∧ n = .int .u64 m ∧ Hid (m = pre ds k ∧ k ≤ p ∧ (k = p ∨ nd ≤ k))) (fun i _ => 20 - (intOf i).toNat)
    case atStart => exact ⟨_,_,rfl,rfl,Lib.hid ⟨HM0.out,by omega,by first | exact .inl rfl | exact .inr (Nat.le_refl _)⟩⟩
    case round =>
     obtain ⟨k',m',rfl,rfl,HT⟩:=hrel;have hk1' : k' ≤ p:=HT.out.2.1;(have hm' : m' < 1000000000000000000:=by rw [HT.out.1];exact HMX.out k' hk1');by_cases hlt' : k' < p
     ·have HV : Hid (m' * 10 = pre ds (k' + 1)):=Lib.hid (by rw [pre,HT.out.1,ZbD ds (by have:=HT.out.2.2;have:=HN.out;omega),Nat.add_zero]);have HV2 : Hid (k' + 1 = p ∨ nd ≤ k' + 1):=Lib.hid (by have:=HT.out.2.2;omega);go_wp2;go_round
      case rel => exact ⟨k' + 1,m' * 10,by go_num,by go_num,Lib.hid ⟨HV.out,hlt',HV2.out⟩⟩
      case measure => simp [intOf];omega
     ·(obtain rfl : p = k':=by omega);have HRES : Hid (m' = pre ds p):=Lib.hid HT.out.1;have hcl:=HUP.out w rfl;cases hb : rup ds p
      all_goals
       rw [hb] at hcl;have HCL:=Lib.hid hcl;have HB:=Lib.hid hb;clear hcl hb;go_wp2_with (go_at_call 145;((with_reducible refine HCL.out.mono ?_);rintro e w' ⟨rfl,rfl⟩));go_ret;exact ⟨congrArg (fun z : Int => Ending.returned (Value.int .u64 z)) (by have:=HRES.out;rw [HB.out];simp;omega),rfl⟩
def digs (s : ByteArray) (k : Nat) : List Nat:=(s.data.toList.take k).map fun c => c.toNat - 48
theorem ZiR (s : ByteArray) (k : Nat) (h : k < s.size) : digs s (k + 1) = digs s k ++ [s[k].toNat - 48]:=by unfold digs;rw [ZfN s k h,List.map_append];rfl
theorem Zdq (s : ByteArray) (k : Nat) (h : k ≤ s.size) : (digs s k).length = k:=by unfold digs;rw [List.length_map,List.length_take,Nat.min_eq_left (by simpa using h)]
theorem Dec.flags {f : Nat → Value} {ds : List Nat} {dp : Int} {neg tr : Bool} (h : Dec f ds dp neg tr) : Dec (upd (upd f 802 (.bool false)) 803 (.bool false)) ds dp false false :=
 ⟨fun i hi => by have:=h.len;rw [Zbp _ _ (by omega),Zbp _ _ (by omega)];exact h.dig i hi,h.ten,h.len,by rw [Zbp _ _ (by omega),Zbp _ _ (by omega)];exact h.nd,by rw [Zbp _ _ (by omega),Zbp _ _ (by omega)];exact h.dpt,by rw [Zbp _ _ (by omega),Zcx],Zcx ..⟩
theorem Dec.push {f : Nat → Value} {ds : List Nat} {dp : Int} {neg tr : Bool} (h : Dec f ds dp neg tr) (hl : ds.length < 800) (c d : Nat) (hc : c = 48 + d) (hd : d < 10) (n : Int) (hn : n = ds.length + 1) : Dec (upd (upd f ds.length (.int .u8 (c : Int))) 800 (.int .i64 n)) (ds ++ [d]) dp neg tr:=by
 refine ⟨fun i hi => ?_,fun i => ?_,by simp;omega,?_,?_,?_,?_⟩
 ·rw [List.length_append,List.length_singleton] at hi;rw [Zbp _ _ (by omega)];rcases Nat.lt_or_eq_of_le (Nat.le_of_lt_succ hi) with h1 | h1
  ·rw [Zbp _ _ (by omega),h.dig i h1,ZcC _ _ h1]
  ·subst h1;rw [Zcx,Zdp,hc]
 ·rcases Nat.lt_trichotomy i ds.length with hi | hi | hi
  ·rw [ZcC _ _ hi];exact h.ten i
  ·subst hi;rw [Zdp];exact hd
  ·rw [ZbD _ (by simp;omega)];omega
 ·rw [Zcx,hn];simp
 ·rw [Zbp _ _ (by omega),Zbp _ _ (by omega)];exact h.dpt
 ·rw [Zbp _ _ (by omega),Zbp _ _ (by omega)];exact h.ngt
 ·rw [Zbp _ _ (by omega),Zbp _ _ (by omega)];exact h.trn
set_option maxHeartbeats 4000000 in
set_option maxRecDepth 100000 in
theorem Zl7 (B : Nat) (f : Nat → Value) (s : ByteArray) (n ev : Nat) (w : World) (ha : Arr w B f) (hd : Dec f [] 0 false false) (hn1 : 1 ≤ n) (hn2 : n ≤ 60) (hsz1 : n + 2 < s.size) (hsz2 : s.size ≤ n + 5)
  (hdig : ∀ k (h : k < s.size),k < n → 48 ≤ s[k].toNat ∧ s[k].toNat ≤ 57) (hfirst : s[0].toNat ≠ 48) (he : s[n].toNat = 101) (hneg : s[n + 1].toNat = 45)
  (hexp : ∀ k (h : k < s.size),n + 2 ≤ k → 48 ≤ s[k].toNat ∧ s[k].toNat ≤ 57)
  (hev : num (s.data.toList.drop (n + 2)) = ev) :
  Calls Tryz.prog 115 #[.pointer (some ⟨B,0,none⟩),.string s] w fun e w' => e = .returned (.bool true) ∧ Made B w w' (digs s n) ((n : Int) - ev) false false:=by
 have hf:=hdig 0 (by omega) (by omega);have c0 : decide (s = ByteArray.empty) = false:=decide_eq_false (fun h => by rw [h] at hsz1;exact absurd hsz1 (by simp));(have g43 : ((s[0].toNat : Int) == 43) = false:=by rw [beq_eq_false_iff_ne];omega);(have g45 : ((s[0].toNat : Int) == 45) = false:=by rw [beq_eq_false_iff_ne];omega);have k802:=ha.cell 802 (by omega);have k803:=ha.cell 803 (by omega);rw [hd.ngt] at k802;rw [hd.trn] at k803;have f802:=ha.free 802 (by omega);have f803:=ha.free 803 (by omega);have HA:=Lib.hid ha;have HDC:=Lib.hid hd;have HD:=Lib.hid hdig;have HX:=Lib.hid hexp;have HE:=Lib.hid hev;clear hdig hexp hev ha hd;go_enter Tryz.func115,Tryz.ntmps115;go_wp2;go_loopw [5,6,7] (fun i sd sg wr => ∃ (k : Nat) (gg : Bool) (g : Nat → Value),i = .int .i64 k ∧ sd = .bool false ∧ sg = .bool gg ∧ Hid (k ≤ n ∧ gg = decide (0 < k) ∧ Arr wr B g ∧ Dec g (digs s k) 0 false false ∧ Below B w wr)) (fun i _ _ _ => s.size - (intOf i).toNat)
 case atStart => exact ⟨0,false,_,rfl,rfl,rfl,Lib.hid ⟨by omega,rfl,(HA.out.set (i:=802) (by omega) (.bool false)).set (i:=803) (by omega) (.bool false),HDC.out.flags,((Below.refl B w).setCell (p:=⟨B,802,none⟩) (Nat.le_refl B) _).setCell (p:=⟨B,803,none⟩) (Nat.le_refl B) _⟩⟩
 case round =>
  obtain ⟨k,gg,g,rfl,rfl,rfl,HR⟩:=hrel;have hk:=HR.out.1;have k800 : wr.cell? ⟨B,800,none⟩ = some (.int .i64 k):=(HR.out.2.2.1.cell 800 (by omega)).trans (congrArg some (HR.out.2.2.2.1.nd.trans (by rw [Zdq s k (by omega)])));have f800:=HR.out.2.2.1.free 800 (by omega);by_cases hlt : k < n
  ·(have hks : k < s.size:=by omega);have hd:=HD.out k hks hlt;have kk:=HR.out.2.2.1.cell k (by omega);have fk:=HR.out.2.2.1.free k (by omega);have hdl:=Zdq s k (by omega);have hpush:=HR.out.2.2.2.1.push (by omega) s[k].toNat (s[k].toNat - 48) (by omega) (by omega) ((k : Int) + 1) (by omega);rw [← ZiR s k hks,hdl] at hpush;have HP:=Lib.hid hpush;have HAR : Hid (∀ m,Arr (((wr.setCell ⟨B,k,none⟩ (.int .u8 (s[k].toNat : Int))).drewN m).setCell ⟨B,800,none⟩ (.int .i64 ((k : Int) + 1))) B (upd (upd g k (.int .u8 (s[k].toNat : Int))) 800 (.int .i64 ((k : Int) + 1))) ∧ Below B w (((wr.setCell ⟨B,k,none⟩ (.int .u8 (s[k].toNat : Int))).drewN m).setCell ⟨B,800,none⟩ (.int .i64 ((k : Int) + 1)))):=Lib.hid (fun m => ⟨((HR.out.2.2.1.set (i:=k) (by omega) _).drewN m).set (i:=800) (by omega) _,(Zac (HR.out.2.2.2.2.setCell (p:=⟨B,k,none⟩) (Nat.le_refl B) _) m).setCell (p:=⟨B,800,none⟩) (Nat.le_refl B) _⟩)
   generalize g k = gv at *
   clear hpush hdl;by_cases h0 : k = 0
   ·(have hz2 : s[k].toNat ≠ 48:=by subst h0;exact hfirst);(have c2 : ((s[k].toNat : Int) == 48) = false:=by rw [beq_eq_false_iff_ne];omega);have HZ:=Lib.hid h0;clear h0 HR;go_wp2;go_region;go_wp2;go_roundw
    case rel => exact ⟨k + 1,true,_,by go_num,rfl,rfl,Lib.hid ⟨hlt,rfl,(HAR.out 1).1,HP.out,(HAR.out 1).2⟩⟩
    case measure => simp [intOf];omega
   ·(have c2 : ((k : Int) == 0) = false:=by rw [beq_eq_false_iff_ne];omega);have HZ:=Lib.hid h0;clear h0 HR;by_cases h48 : s[k].toNat = 48
    ·(have c3 : ((s[k].toNat : Int) == 48) = true:=by rw [beq_iff_eq];omega);have H48:=Lib.hid h48;clear h48;go_wp2;go_region;go_wp2;go_roundw
     case rel => exact ⟨k + 1,true,_,by go_num,rfl,rfl,Lib.hid ⟨hlt,rfl,(HAR.out 1).1,HP.out,(HAR.out 1).2⟩⟩
     case measure => simp [intOf];omega
    ·(have c3 : ((s[k].toNat : Int) == 48) = false:=by rw [beq_eq_false_iff_ne];omega);have H48:=Lib.hid h48;clear h48;go_wp2;go_region;go_wp2;go_roundw
     case rel => exact ⟨k + 1,true,_,by go_num,rfl,rfl,Lib.hid ⟨hlt,rfl,(HAR.out 1).1,HP.out,(HAR.out 1).2⟩⟩
     case measure => simp [intOf];omega
  ·(obtain rfl : n = k:=by omega);(obtain rfl : gg = true:=by rw [HR.out.2.1];exact decide_eq_true (by omega));have hx : 48 ≤ (s[n + 1 + 1]'(by omega)).toNat ∧ (s[n + 1 + 1]'(by omega)).toNat ≤ 57:=HX.out (n + 1 + 1) (by omega) (by omega);obtain ⟨hx1,hx2⟩:=hx;have k801:=HR.out.2.2.1.cell 801 (by omega);have f801:=HR.out.2.2.1.free 801 (by omega);have hdl:=Zdq s n (by omega);have HPT : Hid (Arr (wr.setCell ⟨B,801,none⟩ (.int .i64 n)) B (upd g 801 (.int .i64 n)) ∧ Dec (upd g 801 (.int .i64 n)) (digs s n) n false false ∧ Below B w (wr.setCell ⟨B,801,none⟩ (.int .i64 n))):=Lib.hid ⟨HR.out.2.2.1.set (by omega) _,HR.out.2.2.2.1.Ziv n,HR.out.2.2.2.2.setCell (p:=⟨B,801,none⟩) (Nat.le_refl B) _⟩
   generalize g 801 = gv at *
   clear hfirst hlt HR hdl;have q1 : decide ((s.size : Int) ≤ (n : Int) + 1) = false:=decide_eq_false (by omega);have q2 : decide ((s.size : Int) ≤ (n : Int) + 1 + 1) = false:=decide_eq_false (by omega);have q3 : decide (((s[n + 1 + 1]'(by omega)).toNat : Int) < 48) = false:=decide_eq_false (by omega);have q4 : decide ((57 : Int) < ((s[n + 1 + 1]'(by omega)).toNat : Int)) = false:=decide_eq_false (by omega);go_wp2_with (go_at_call 99;refine (ZdG _).mono ?_;rintro e w' ⟨rfl,rfl⟩);go_loop [5,9] (fun i e => ∃ j ee : Nat,i = .int .i64 j ∧ e = .int .i64 ee ∧ Hid (n + 2 ≤ j ∧ j ≤ s.size ∧ ee = num ((s.data.toList.drop (n + 2)).take (j - (n + 2))))) (fun i _ => s.size - (intOf i).toNat)
   case atStart => exact ⟨n + 2,0,by go_num,rfl,Lib.hid ⟨by omega,by omega,by simp [num]⟩⟩
   case round =>
    obtain ⟨j,ee,rfl,rfl,HJ⟩:=hrel;have hj1 : n + 2 ≤ j:=HJ.out.1;have hj2 : j ≤ s.size:=HJ.out.2.1
    have hee : ee < 1000:=by
     rw [HJ.out.2.2];refine Nat.lt_of_lt_of_le (Zdv _ ?_) (Nat.le_trans (Nat.pow_le_pow_right (by omega) (show _ ≤ 3 by rw [List.length_take];omega)) (by decide));intro x hx;have hx':=List.mem_of_mem_take hx;obtain ⟨i,hi,rfl⟩:=List.mem_iff_getElem.1 hx';rw [List.getElem_drop];rw [List.length_drop] at hi;exact (HX.out (n + 2 + i) (by simp at hi;omega) (by omega)).2
    by_cases hlt : j < s.size
    ·have hd:=HX.out j hlt hj1
     have HN : Hid (n + 2 ≤ j + 1 ∧ j + 1 ≤ s.size ∧ ee * 10 + (s[j].toNat - 48) = num ((s.data.toList.drop (n + 2)).take (j + 1 - (n + 2)))):=Lib.hid ⟨by omega,by omega,by
      rw [show j + 1 - (n + 2) = (j - (n + 2)) + 1 by omega,List.take_succ_eq_append_getElem (by simp;omega),Zdi,← HJ.out.2.2]
      congr 2
      rw [List.getElem_drop];simp only [show n + 2 + (j - (n + 2)) = j by omega]
      rfl⟩
     (have c7 : ((s[j].toNat : Int) == 95) = false:=by rw [beq_eq_false_iff_ne];omega);go_wp2;go_round
     case rel => exact ⟨j + 1,ee * 10 + (s[j].toNat - 48),by go_num,congrArg (Value.int .i64) (by omega),HN⟩
     case measure => simp [intOf];omega
    ·obtain rfl : s.size = j:=by omega
     have hev : ee = ev:=by
      rw [HJ.out.2.2,← HE.out];exact congrArg num (List.take_of_length_le (by simp))
     obtain rfl : ee = ev:=hev
     have k5 : (wr.setCell ⟨B,801,none⟩ (.int .i64 n)).cell? ⟨B,801,none⟩ = some (.int .i64 n):=by
      have:=HPT.out.1.cell 801 (by omega);rw [Zcx] at this;exact this
     have HM : Hid (Made B w ((wr.setCell ⟨B,801,none⟩ (.int .i64 n)).setCell ⟨B,801,none⟩ (.int .i64 ((n : Int) + -(ee : Int)))) (digs s n) ((n : Int) - ee) false false):=Lib.hid ⟨_,HPT.out.1.set (i:=801) (by omega) _,by
      have:=HPT.out.2.1.Ziv ((n : Int) - ee);exact this,HPT.out.2.2.setCell (p:=⟨B,801,none⟩) (Nat.le_refl B) _⟩
     go_wp2;go_ret;exact ⟨rfl,HM.out⟩
set_option maxHeartbeats 4000000 in
set_option maxRecDepth 100000 in
theorem Zn5 (B : Nat) (f : Nat → Value) (s : ByteArray) (n ev : Nat) (w : World) (ha : Arr w B f) (hd : Dec f [] 0 false false) (hn1 : 1 ≤ n) (hn2 : n ≤ 60) (hsz1 : n + 1 < s.size) (hsz2 : s.size ≤ n + 4)
  (hdig : ∀ k (h : k < s.size),k < n → 48 ≤ s[k].toNat ∧ s[k].toNat ≤ 57) (hfirst : s[0].toNat ≠ 48) (he : s[n].toNat = 101)
  (hexp : ∀ k (h : k < s.size),n + 1 ≤ k → 48 ≤ s[k].toNat ∧ s[k].toNat ≤ 57)
  (hev : num (s.data.toList.drop (n + 1)) = ev) :
  Calls Tryz.prog 115 #[.pointer (some ⟨B,0,none⟩),.string s] w fun e w' => e = .returned (.bool true) ∧ Made B w w' (digs s n) ((n : Int) + ev) false false:=by
 have hf:=hdig 0 (by omega) (by omega);have c0 : decide (s = ByteArray.empty) = false:=decide_eq_false (fun h => by rw [h] at hsz1;exact absurd hsz1 (by simp));(have g43 : ((s[0].toNat : Int) == 43) = false:=by rw [beq_eq_false_iff_ne];omega);(have g45 : ((s[0].toNat : Int) == 45) = false:=by rw [beq_eq_false_iff_ne];omega);have k802:=ha.cell 802 (by omega);have k803:=ha.cell 803 (by omega);rw [hd.ngt] at k802;rw [hd.trn] at k803;have f802:=ha.free 802 (by omega);have f803:=ha.free 803 (by omega);have HA:=Lib.hid ha;have HDC:=Lib.hid hd;have HD:=Lib.hid hdig;have HX:=Lib.hid hexp;have HE:=Lib.hid hev;clear hdig hexp hev ha hd;go_enter Tryz.func115,Tryz.ntmps115;go_wp2;go_loopw [5,6,7] (fun i sd sg wr => ∃ (k : Nat) (gg : Bool) (g : Nat → Value),i = .int .i64 k ∧ sd = .bool false ∧ sg = .bool gg ∧ Hid (k ≤ n ∧ gg = decide (0 < k) ∧ Arr wr B g ∧ Dec g (digs s k) 0 false false ∧ Below B w wr)) (fun i _ _ _ => s.size - (intOf i).toNat)
 case atStart => exact ⟨0,false,_,rfl,rfl,rfl,Lib.hid ⟨by omega,rfl,(HA.out.set (i:=802) (by omega) (.bool false)).set (i:=803) (by omega) (.bool false),HDC.out.flags,((Below.refl B w).setCell (p:=⟨B,802,none⟩) (Nat.le_refl B) _).setCell (p:=⟨B,803,none⟩) (Nat.le_refl B) _⟩⟩
 case round =>
  obtain ⟨k,gg,g,rfl,rfl,rfl,HR⟩:=hrel;have hk:=HR.out.1;have k800 : wr.cell? ⟨B,800,none⟩ = some (.int .i64 k):=(HR.out.2.2.1.cell 800 (by omega)).trans (congrArg some (HR.out.2.2.2.1.nd.trans (by rw [Zdq s k (by omega)])));have f800:=HR.out.2.2.1.free 800 (by omega);by_cases hlt : k < n
  ·(have hks : k < s.size:=by omega);have hd:=HD.out k hks hlt;have kk:=HR.out.2.2.1.cell k (by omega);have fk:=HR.out.2.2.1.free k (by omega);have hdl:=Zdq s k (by omega);have hpush:=HR.out.2.2.2.1.push (by omega) s[k].toNat (s[k].toNat - 48) (by omega) (by omega) ((k : Int) + 1) (by omega);rw [← ZiR s k hks,hdl] at hpush;have HP:=Lib.hid hpush;have HAR : Hid (∀ m,Arr (((wr.setCell ⟨B,k,none⟩ (.int .u8 (s[k].toNat : Int))).drewN m).setCell ⟨B,800,none⟩ (.int .i64 ((k : Int) + 1))) B (upd (upd g k (.int .u8 (s[k].toNat : Int))) 800 (.int .i64 ((k : Int) + 1))) ∧ Below B w (((wr.setCell ⟨B,k,none⟩ (.int .u8 (s[k].toNat : Int))).drewN m).setCell ⟨B,800,none⟩ (.int .i64 ((k : Int) + 1)))):=Lib.hid (fun m => ⟨((HR.out.2.2.1.set (i:=k) (by omega) _).drewN m).set (i:=800) (by omega) _,(Zac (HR.out.2.2.2.2.setCell (p:=⟨B,k,none⟩) (Nat.le_refl B) _) m).setCell (p:=⟨B,800,none⟩) (Nat.le_refl B) _⟩)
   generalize g k = gv at *
   clear hpush hdl;by_cases h0 : k = 0
   ·(have hz2 : s[k].toNat ≠ 48:=by subst h0;exact hfirst);(have c2 : ((s[k].toNat : Int) == 48) = false:=by rw [beq_eq_false_iff_ne];omega);have HZ:=Lib.hid h0;clear h0 HR;go_wp2;go_region;go_wp2;go_roundw
    case rel => exact ⟨k + 1,true,_,by go_num,rfl,rfl,Lib.hid ⟨hlt,rfl,(HAR.out 1).1,HP.out,(HAR.out 1).2⟩⟩
    case measure => simp [intOf];omega
   ·(have c2 : ((k : Int) == 0) = false:=by rw [beq_eq_false_iff_ne];omega);have HZ:=Lib.hid h0;clear h0 HR;by_cases h48 : s[k].toNat = 48
    ·(have c3 : ((s[k].toNat : Int) == 48) = true:=by rw [beq_iff_eq];omega);have H48:=Lib.hid h48;clear h48;go_wp2;go_region;go_wp2;go_roundw
     case rel => exact ⟨k + 1,true,_,by go_num,rfl,rfl,Lib.hid ⟨hlt,rfl,(HAR.out 1).1,HP.out,(HAR.out 1).2⟩⟩
     case measure => simp [intOf];omega
    ·(have c3 : ((s[k].toNat : Int) == 48) = false:=by rw [beq_eq_false_iff_ne];omega);have H48:=Lib.hid h48;clear h48;go_wp2;go_region;go_wp2;go_roundw
     case rel => exact ⟨k + 1,true,_,by go_num,rfl,rfl,Lib.hid ⟨hlt,rfl,(HAR.out 1).1,HP.out,(HAR.out 1).2⟩⟩
     case measure => simp [intOf];omega
  ·(obtain rfl : n = k:=by omega);(obtain rfl : gg = true:=by rw [HR.out.2.1];exact decide_eq_true (by omega));have hx : 48 ≤ (s[n + 1]'(by omega)).toNat ∧ (s[n + 1]'(by omega)).toNat ≤ 57:=HX.out (n + 1) (by omega) (by omega);obtain ⟨hx1,hx2⟩:=hx;have k801:=HR.out.2.2.1.cell 801 (by omega);have f801:=HR.out.2.2.1.free 801 (by omega);have hdl:=Zdq s n (by omega);have HPT : Hid (Arr (wr.setCell ⟨B,801,none⟩ (.int .i64 n)) B (upd g 801 (.int .i64 n)) ∧ Dec (upd g 801 (.int .i64 n)) (digs s n) n false false ∧ Below B w (wr.setCell ⟨B,801,none⟩ (.int .i64 n))):=Lib.hid ⟨HR.out.2.2.1.set (by omega) _,HR.out.2.2.2.1.Ziv n,HR.out.2.2.2.2.setCell (p:=⟨B,801,none⟩) (Nat.le_refl B) _⟩
   generalize g 801 = gv at *
   clear hfirst hlt HR hdl;have q1 : decide ((s.size : Int) ≤ (n : Int) + 1) = false:=decide_eq_false (by omega);have q3 : decide (((s[n + 1]'(by omega)).toNat : Int) < 48) = false:=decide_eq_false (by omega);have q4 : decide ((57 : Int) < ((s[n + 1]'(by omega)).toNat : Int)) = false:=decide_eq_false (by omega);go_wp2_with (go_at_call 99;refine (ZdG _).mono ?_;rintro e w' ⟨rfl,rfl⟩);go_loop [5,9] (fun i e => ∃ j ee : Nat,i = .int .i64 j ∧ e = .int .i64 ee ∧ Hid (n + 1 ≤ j ∧ j ≤ s.size ∧ ee = num ((s.data.toList.drop (n + 1)).take (j - (n + 1))))) (fun i _ => s.size - (intOf i).toNat)
   case atStart => exact ⟨n + 1,0,by go_num,rfl,Lib.hid ⟨by omega,by omega,by simp [num]⟩⟩
   case round =>
    obtain ⟨j,ee,rfl,rfl,HJ⟩:=hrel;have hj1 : n + 1 ≤ j:=HJ.out.1;have hj2 : j ≤ s.size:=HJ.out.2.1
    have hee : ee < 1000:=by
     rw [HJ.out.2.2];refine Nat.lt_of_lt_of_le (Zdv _ ?_) (Nat.le_trans (Nat.pow_le_pow_right (by omega) (show _ ≤ 3 by rw [List.length_take];omega)) (by decide));intro x hx;have hx':=List.mem_of_mem_take hx;obtain ⟨i,hi,rfl⟩:=List.mem_iff_getElem.1 hx';rw [List.getElem_drop];rw [List.length_drop] at hi;exact (HX.out (n + 1 + i) (by simp at hi;omega) (by omega)).2
    by_cases hlt : j < s.size
    ·have hd:=HX.out j hlt hj1
     have HN : Hid (n + 1 ≤ j + 1 ∧ j + 1 ≤ s.size ∧ ee * 10 + (s[j].toNat - 48) = num ((s.data.toList.drop (n + 1)).take (j + 1 - (n + 1)))):=Lib.hid ⟨by omega,by omega,by
      rw [show j + 1 - (n + 1) = (j - (n + 1)) + 1 by omega,List.take_succ_eq_append_getElem (by simp;omega),Zdi,← HJ.out.2.2]
      congr 2
      rw [List.getElem_drop];simp only [show n + 1 + (j - (n + 1)) = j by omega]
      rfl⟩
     (have c7 : ((s[j].toNat : Int) == 95) = false:=by rw [beq_eq_false_iff_ne];omega);go_wp2;go_round
     case rel => exact ⟨j + 1,by omega,ee * 10 + (s[j].toNat - 48),by omega,HN⟩
     case measure => simp [intOf];omega
    ·obtain rfl : s.size = j:=by omega
     have hev : ee = ev:=by
      rw [HJ.out.2.2,← HE.out];exact congrArg num (List.take_of_length_le (by simp))
     obtain rfl : ee = ev:=hev
     have k5 : (wr.setCell ⟨B,801,none⟩ (.int .i64 n)).cell? ⟨B,801,none⟩ = some (.int .i64 n):=by
      have:=HPT.out.1.cell 801 (by omega);rw [Zcx] at this;exact this
     have HM : Hid (Made B w ((wr.setCell ⟨B,801,none⟩ (.int .i64 n)).setCell ⟨B,801,none⟩ (.int .i64 ((n : Int) + (ee : Int)))) (digs s n) ((n : Int) + ee) false false):=Lib.hid ⟨_,HPT.out.1.set (i:=801) (by omega) _,by
      have:=HPT.out.2.1.Ziv ((n : Int) + ee);exact this,HPT.out.2.2.setCell (p:=⟨B,801,none⟩) (Nat.le_refl B) _⟩
     go_wp2;go_ret;exact ⟨rfl,HM.out⟩
end Go.Proofs.YtfoekmfpcahmiabGreatDoor.SF
