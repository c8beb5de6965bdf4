-- by this session's own program mp.py over the kit's printer
import Derived.Test.YtfoekmfpcahmiabGreatDoorSQK0
import Derived.Test.YtfoekmfpcahmiabGreatDoorSQK7
namespace Go.Proofs.YtfoekmfpcahmiabGreatDoor.MFnTokens
open Go.RowKit YtfoekmfpcahmiabGreatDoorW.PrintWords YtfoekmfpcahmiabGreatDoorW.PrintLast YtfoekmfpcahmiabGreatDoorW.PrintMore
attribute [local go_sem] ZbL ZbJ ZbZ ZbY Zbw Zbv ZbK ZbI
set_option linter.unusedVariables false
set_option linter.unusedSimpArgs false
def errW : Option Int → Value
 | none => .nilIface
 | some c => .iface 0 (.int .i64 c)
theorem ZaF : errW none = .nilIface:=rfl
theorem ZaE (c : Int) : errW (some c) = .iface 0 (.int .i64 c):=rfl
theorem info5 : (Tryz.prog.info? 5).map (fun i => (i.zero,i.size,i.bytes)) = some (some (.int .u8 0),1,1):=by kernel_rfl
theorem Zd3 : (Tryz.prog.info? 9).map (fun i => (i.zero,i.size,i.bytes)) = some (some (.string ⟨#[]⟩),1,16):=by kernel_rfl
theorem Zfp : (Tryz.prog.info? 28).map (fun i => (i.zero,i.size,i.bytes)) = some (some (.int .u64 0),1,8):=by kernel_rfl
theorem Zpc : (Tryz.prog.info? 30).map (fun i => (i.zero,i.size,i.bytes)) = some (some (.agg #[(.int .i64 0),(.string ⟨#[]⟩),(.int .u64 0),(.int .i64 0)]),4,40):=by kernel_rfl
structure S30 where
 f0 : Int
 f1 : ByteArray
 f2 : Int
 f3 : Int
def z30 : S30:=⟨(0 : Int),(⟨#[]⟩ : ByteArray),(0 : Int),(0 : Int)⟩
def k30 : Kd S30:=Kd.iso (Kd.pair (Kd.int .i64) (Kd.pair Kd.string (Kd.pair (Kd.int .u64) (Kd.int .i64)))) (fun x : S30 => (x.f0,x.f1,x.f2,x.f3))
theorem Zou {w : World} {x : S30} {cs : List Value} (h : k30.K w x cs) : cs = [.int .i64 x.f0,.string x.f1,.int .u64 x.f2,.int .i64 x.f3]:=by
 obtain ⟨_,_,rfl,rfl,⟨_,_,rfl,rfl,⟨_,_,rfl,rfl,rfl⟩⟩⟩:=h;exact rfl
theorem ZmX (w : World) (base : Nat) (ok : Nat → Prop) (x : S30)  : k30.M w base ok x [.int .i64 x.f0,.string x.f1,.int .u64 x.f2,.int .i64 x.f3]:=⟨[.int .i64 x.f0],[.string x.f1,.int .u64 x.f2,.int .i64 x.f3],rfl,rfl,⟨[.string x.f1],[.int .u64 x.f2,.int .i64 x.f3],rfl,rfl,⟨[.int .u64 x.f2],[.int .i64 x.f3],rfl,rfl,rfl⟩⟩⟩
def ZgZ (xs : List S30) (i : Int) : S30:=xs.getD i.toNat z30
theorem ZnI {w : World} {A : Option Addr} {n : Nat} {xs : List S30} (h : Kd.C k30 w A n xs) (i : Int) (h0 : 0 ≤ i) (h1 : i < n) : ∃ ad , A = some ad ∧ w.cell? (ad.add (i.toNat * 4)) = some (.int .i64 (ZgZ xs i).f0) ∧ w.cell? ⟨(ad.add (i.toNat * 4)).block,(ad.add (i.toNat * 4)).off + 1,none⟩ = some (.string (ZgZ xs i).f1) ∧ w.cell? ⟨(ad.add (i.toNat * 4)).block,(ad.add (i.toNat * 4)).off + 2,none⟩ = some (.int .u64 (ZgZ xs i).f2) ∧ w.cell? ⟨(ad.add (i.toNat * 4)).block,(ad.add (i.toNat * 4)).off + 3,none⟩ = some (.int .i64 (ZgZ xs i).f3):=by
 obtain ⟨ad,c,e,_,hK,hc0⟩:=Kd.C_get h z30 i h0 h1;have hc : ∀ j u,c[j]? = some u → w.cell? (ad.add (i.toNat * 4 + j)) = some u:=hc0;obtain rfl:=Zou hK;exact ⟨ad,e,hc 0 _ rfl,by rw [← Zgu _ _ 1 (by omega)];exact hc 1 _ rfl,by rw [← Zgu _ _ 2 (by omega)];exact hc 2 _ rfl,by rw [← Zgu _ _ 3 (by omega)];exact hc 3 _ rfl⟩
end Go.Proofs.YtfoekmfpcahmiabGreatDoor.MFnTokens
