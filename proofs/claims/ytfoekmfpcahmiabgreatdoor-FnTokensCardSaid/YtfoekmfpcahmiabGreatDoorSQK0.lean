/- This session's text, made small by mini.py. No condition beyond those typed. -/
import Derived.Test.YtfoekmfpcahmiabGreatDoorSQZip
import Derived.Test.YtfoekmfpcahmiabGreatDoorSQShelf
import Derived.Test.YtfoekmfpcahmiabGreatDoorVQMore
namespace Go.Proofs.YtfoekmfpcahmiabGreatDoor.G
open Go.RowKit YtfoekmfpcahmiabGreatDoorW.PrintWords
def strings_IndexByte (a0 : ByteArray) (a1 : Int) : Option Int:=some (Lib.indexByte a0.data.toList a1.toNat.toUInt8)
theorem Zdc (a0 : ByteArray) (a1 : Int) (r : Int) (w : World) (h : strings_IndexByte a0 a1 = some r) :
  Calls Tryz.prog 50 #[.string a0,.int .u8 a1] w fun e w' => e = .returned (.int .i64 r) ∧ ZaB w w':=by
 obtain rfl:=Option.some.inj h;exact (Tryz.strings_IndexByte a0 a1 w).mono fun e w' ⟨he,hw⟩ => ⟨he,⟨⟨0,hw⟩⟩⟩
def strconv_Atoi (a0 : ByteArray) : Option (Int × Option Int):=if a0.size ≤ 18 then (Lib.atoi a0.data.toList).map fun n => (n,none) else none
theorem Zex (a0 : ByteArray) (r1 : Int) (r2 : Option Int) (w : World) (h : strconv_Atoi a0 = some (r1,r2)) :
  r2 = none ∧ Calls Tryz.prog 47 #[.string a0] w fun e w' => e = .returned (.tuple #[.int .i64 r1,.nilIface]) ∧ Below w.heap.size w w':=by
 unfold strconv_Atoi at h;split at h
 ·rename_i hs
  cases ha : Lib.atoi a0.data.toList with
  | none => rw [ha] at h;cases h
  | some n =>
   rw [ha] at h;injection h with h;injection h with h1 h2;subst h1 h2;refine ⟨rfl,(Tryz.strconv_Atoi a0 n hs ha w).mono ?_⟩;rintro e w' ⟨rfl,t,rfl⟩;exact ⟨rfl,Lib.bytesWorld_below _ _ _⟩
 ·cases h
def Za7 (a0 a1 : ByteArray) : Option ByteArray:=if a1 = ⟨#[48]⟩ then some ⟨(Lib.trimLeftB a0.data.toList 48).toArray⟩ else none
theorem Zdx (a0 a1 r : ByteArray) (w : World) (h : Za7 a0 a1 = some r) :
  Calls Tryz.prog 48 #[.string a0,.string a1] w fun e w' => e = .returned (.string r) ∧ Below w.heap.size w w':=by
 unfold Za7 at h;split at h
 ·rename_i hs
  subst hs;obtain rfl:=Option.some.inj h;refine (Tryz.strings_TrimLeft_one a0 48 (by decide) w).mono ?_;rintro e w' ⟨rfl,rfl⟩;exact ⟨rfl,Below.refl _ _⟩
 ·cases h
open Go YtfoekmfpcahmiabGreatDoorW.PrintLast YtfoekmfpcahmiabGreatDoorW.PrintMore
section
variable {P : Program} {ops : Array Oper} {Q : Exit → Act → World → Prop} {rest : List Oper}
theorem ZcD {o o2 : Oper} {a : Act} {W : World} (hgd : o.guard = none) (hgd2 : o2.guard = none) {N : Tmp} (_hd : o.dst = some N) (hd2 : o2.dst = none) {cs cs' : Array Value} {t : TypeId} {x : Operand}
  (hrun : (execOp a.eval o).run P W = .ok (.value (.pointer (some ⟨W.heap.size,0,none⟩))) (W.alloc (.cells cs t (0,0))))
  (ho2 : o2.op = .store t (.tmp N) x) (hx : ∀ p,(a.put o.dst p).eval x = .agg cs') (hN : ∀ p,(a.put o.dst p).eval (.tmp N) = p)
  (hi : (P.info? t).map (·.size) = some cs'.size) (hcs : cs.size = cs'.size) (h1 : cs'.all (·.oneCell') = true)
  (h : ∀ g,g = W.heap.size → ∀ w1,w1.heap[g]? = some (.cells cs' t (0,0)) → Below W.heap.size W w1 → wpList P ops Q rest (a.put o.dst (.pointer (some ⟨g,0,none⟩))) w1) : wpList P ops Q (o :: o2 :: rest) a W:=by
 refine Kd.ZdK hgd hrun ?_;refine ZfP (t:=t) (p:=N) (v:=x) (w1:=W.alloc (.cells cs' t (0,0))) hgd2 ho2 hd2 ?_ ?_
 ·unfold execOp;rw [ho2];simp only [hx,hN];have:=run_storeAt_new (P:=P) W t cs cs' hi hcs h1;simp [this]
 ·rintro w' rfl;exact h _ rfl _ (Zer W _) (Zag (Below.refl _ _) _)
end
end Go.Proofs.YtfoekmfpcahmiabGreatDoor.G
