/- This session's text, made small by mini.py. No condition beyond those typed. -/
import Derived.Test.YtfoekmfpcahmiabGreatDoorVQLast
import Derived.Test.YtfoekmfpcahmiabGreatDoorVQWords
namespace Go.Proofs.YtfoekmfpcahmiabGreatDoorW.PrintLast
open Go.Proofs.YtfoekmfpcahmiabGreatDoorW.PrintWords (Zaa)
def ZhB (md : Region.Mode) (o : Oper) : List Nat:=(o.after.toList.filter (fun e => Region.binds md e)).map (fun e => e.on)
def ZjO (md : Region.Mode) (ops : Array Oper) (i : Nat) (oi : Oper) : List Nat:=(List.range ops.size).filter fun j => !(j == i) && match ops[j]? with
  | some oj => !(oj.after.any (fun e => Region.binds md e && e.on == i) || oi.apart ops oj)
  | none => false
def rtab (md : Region.Mode) (ops : Array Oper) : Bool × List (List Nat × List Nat):=(Region.noSelect ops,(List.range ops.size).map fun i => match ops[i]? with
  | some o => (ZhB md o,ZjO md ops i o)
  | none => ([],[]))
def ZdB (T : List (List Nat × List Nat)) (l : List Bool) (i : Nat) : Bool := !l.getD i true && match T[i]? with
  | some r => r.1.all (fun j => l.getD j false)
  | none => false
def Ziq (T : List (List Nat × List Nat)) (l : List Bool) : List Nat:=(List.range T.length).filter (ZdB T l)
def Zm3 (T : List (List Nat × List Nat)) (l : List Bool) (i : Nat) : Bool:=match T[i]? with
  | some r => r.2.all (fun j => l.getD j true)
  | none => false
def Znv (T : List (List Nat × List Nat)) (l : List Bool) : Bool:=(List.range T.length).all fun j => !l.getD j false || match T[j]? with
  | some r => r.1.all (fun k => l.getD k false)
  | none => true
def Zo1 (T : List (List Nat × List Nat)) (i : Nat) : Nat → Nat → Bool
  | 0,_ => false
  | fuel + 1,d => match T[d]? with
    | some r => r.1.any fun j => j == i || Zo1 T i fuel j
    | none => false
def lastT (T : List (List Nat × List Nat)) (l : List Bool) (ds : List Nat) (i : Nat) : Bool:=ds.all fun d => l.getD d true || Zo1 T i T.length d
section
variable {md : Region.Mode} {ops : Array Oper} {T : Bool × List (List Nat × List Nat)} {l l' li lj lk : Array Bool} {ds : List Nat} {i j k : Nat}
theorem gd (l : Array Bool) (j : Nat) (b : Bool) : l.getD j b = l.toList.getD j b:=by simp [Array.getD_eq_getD_getElem?,List.getD_eq_getElem?_getD]
theorem ZmK (o : Oper) (p : Nat → Bool) : o.after.all (fun e => !Region.binds md e || p e.on) = (ZhB md o).all p:=by
  unfold ZhB;rw [← Array.all_toList]
  induction o.after.toList with
  | nil => rfl
  | cons e r ih =>
    rw [List.all_cons,ih,List.filter_cons];cases h : Region.binds md e <;> simp
theorem Zf0 : (rtab md ops).2.length = ops.size:=by simp [rtab]
theorem Zim {o : Oper} (h : ops[i]? = some o) : (rtab md ops).2[i]? = some (ZhB md o,ZjO md ops i o):=by
  have hi:=(Array.getElem?_eq_some_iff.1 h).1;unfold rtab;rw [List.getElem?_map,List.getElem?_range hi,Option.map_some,h]
theorem Zin (h : ops[i]? = none) : (rtab md ops).2[i]? = none:=by
  have hi : ops.size ≤ i:=Array.getElem?_eq_none_iff.1 h;exact List.getElem?_eq_none (by rw [Zf0];exact hi)
theorem Zk5 : ZdB (rtab md ops).2 l.toList i = (!l.getD i true && ((ops[i]?).map (·.after.all fun e => !Region.binds md e || l.getD e.on false)).getD false):=by
  unfold ZdB;rw [gd]
  cases h : ops[i]? with
  | none => rw [Zin h];rfl
  | some o =>
    rw [Zim h];simp only [Option.map_some,Option.getD_some];rw [← ZmK];simp only [gd]
theorem Zhr : Region.ready md ops l = Ziq (rtab md ops).2 l.toList:=by
  unfold Region.ready Ziq;rw [Zf0];refine List.filter_congr (fun i _ => ?_);rw [Zk5]
theorem free_eq : Region.free md ops l i = Zm3 (rtab md ops).2 l.toList i:=by
  unfold Region.free Zm3
  cases h : ops[i]? with
  | none => rw [Zin h]
  | some oi =>
    rw [Zim h];simp only [ZjO];rw [List.all_filter]
    congr 1
    funext j
    rw [gd]
    cases hj : ops[j]? with
    | none => cases (j == i) <;> cases (l.toList.getD j true) <;> simp
    | some oj =>
      cases (j == i) <;> cases (l.toList.getD j true) <;> cases (oj.after.any (fun e => Region.binds md e && e.on == i) || oi.apart ops oj) <;> simp_all
theorem Zjq (h : ZdB T.2 l.toList i = true) (hT : rtab md ops = T) : (Region.ready md ops l).contains i = true:=by
  subst hT;rw [Zhr];unfold Ziq;rw [List.contains_iff_mem,List.mem_filter,List.mem_range];refine ⟨?_,h⟩;unfold ZdB at h;rw [Bool.and_eq_true] at h
  cases hq : (rtab md ops).2[i]? with
  | none => rw [hq] at h;simp at h
  | some r => exact (List.getElem?_eq_some_iff.1 hq).1
theorem Zo0 (h : (l.toList.set i true == l'.toList) = true) : (l.setIfInBounds i true == l') = true:=by
  rw [beq_iff_eq] at h ⊢;apply Array.ext';rw [Array.toList_setIfInBounds];exact h
def anyT (T : Bool × List (List Nat × List Nat)) (l l' : List Bool) (i : Nat) : Bool:=T.1 && Zm3 T.2 l i && ZdB T.2 l i && (l.set i true == l')
theorem ZdO (hT : rtab md ops = T) (h : anyT T l.toList l'.toList i = true) : anyB md ops l l' i = true:=by
  simp only [anyT,Bool.and_eq_true] at h;obtain ⟨⟨⟨h1,h2⟩,h3⟩,h4⟩:=h;have h5:=Zjq h3 hT;have h6:=Zo0 h4;subst hT;simp only [anyB,Bool.and_eq_true];exact ⟨⟨⟨h1,by rw [free_eq];exact h2⟩,h5⟩,h6⟩
def takeT (T : Bool × List (List Nat × List Nat)) (ds : List Nat) (l l' : List Bool) (i : Nat) : Bool:=T.1 && Zm3 T.2 l i && ZdB T.2 l i && Znv T.2 l && lastT T.2 l ds i && (l.set i true == l')
theorem one_of (hT : rtab md ops = T) (h : (Ziq T.2 l.toList == [i] && l.toList.set i true == l'.toList) = true) : ZgW md ops l l' i = true:=by
  simp only [Bool.and_eq_true] at h;obtain ⟨h1,h2⟩:=h;subst hT;simp only [ZgW,Bool.and_eq_true];exact ⟨by rw [Zhr];exact h1,Zo0 h2⟩
theorem done_of (hT : rtab md ops = T) (h : (Ziq T.2 l.toList == []) = true) : (Region.ready md ops l == []) = true:=by
  subst hT;rw [Zhr];exact h
def upM (B : List Nat) (d : Nat) : List Nat → Nat
  | [] => 0
  | n :: r => (2 ^ n ||| (if n < d then B.getD n 0 else 0)) ||| upM B d r
def Zi9 (T : List (List Nat × List Nat)) (B : List Nat) : Bool:=(List.range T.length).all fun d => match T[d]? with
  | some r => (B.getD d 0 ||| upM B d r.1) == upM B d r.1
  | none => false
def lastW (T : List (List Nat × List Nat)) (B : List Nat) (l : List Bool) (ds : List Nat) (i : Nat) : Bool:=ds.all fun d => l.getD d true || (decide (d < T.length) && (B.getD d 0).testBit i)
def takeW (T : Bool × List (List Nat × List Nat)) (B : List Nat) (ds : List Nat) (l l' : List Bool) (i : Nat) : Bool:=T.1 && Zm3 T.2 l i && ZdB T.2 l i && Znv T.2 l && lastW T.2 B l ds i && (l.set i true == l')
theorem ZlC {P : Program} {Q : Exit → Act → World → Prop} {S : World → Prop} {n : Nat} {a : Act} {w : World} {B : List Nat} (hT : rtab md ops = T) (hB : Zi9 T.2 B = true) (h : Zaa (rtab md ops = T) → Zaa (Zi9 T.2 B = true) → ZaW P md ops Q S ds n l a w) : ZaW P md ops Q S ds n l a w:=h ⟨hT⟩ ⟨hB⟩
end
def ZgF : Code → Nat → Option (Array Oper)
  | .region id ops _,k => if id == k then some ops else none
  | .seq a b,k => match ZgF a k with
    | some o => some o
    | none => ZgF b k
  | .cond _ a b,k => match ZgF a k with
    | some o => some o
    | none => ZgF b k
  | .block _ c,k => ZgF c k
  | .loop c,k => ZgF c k
  | .scope c,k => ZgF c k
  | .rangeFunc _ _ a b,k => match ZgF a k with
    | some o => some o
    | none => ZgF b k
  | _,_ => none
def opsOf (f : Func) (k : Nat) : Array Oper:=((f.body.bind fun c => ZgF c k)).getD #[]
end Go.Proofs.YtfoekmfpcahmiabGreatDoorW.PrintLast
