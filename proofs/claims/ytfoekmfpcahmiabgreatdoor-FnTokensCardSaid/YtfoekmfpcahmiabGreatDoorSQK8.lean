/- This session's text, made small by mini.py. No condition beyond those typed. -/
import Derived.Test.YtfoekmfpcahmiabGreatDoorSQK7
import Derived.Test.YtfoekmfpcahmiabGreatDoorRows
import Derived.LaidMore
namespace Go.Proofs.YtfoekmfpcahmiabGreatDoor.SF
open Go.RowKit YtfoekmfpcahmiabGreatDoorW.PrintWords CB CQ PN XF
def Reads (w : World) (n : String) (d : DataW Unit) : Prop :=
 ∃ g t cs fuel p,Tryz.prog.globalNamed n = some g ∧ (Tryz.prog.globals[g]?).map (·.type) = some t ∧ w.var? Tryz.prog n = some cs ∧ DataW.trod (fun _ => ()) Tryz.prog w 0 (fun _ => true) false fuel t cs.toList = some (d,p)
theorem ZcS {w : World} : ∀ {l : List (String × DataW Unit)} {ps : List MemPlace},DataW.LaidVars Tryz.prog w l ps → ∀ x,x ∈ l → Reads w x.1 x.2
  | [],_,_,_,hm => by cases hm
  | _ :: _,_,h,x,hm => by
    obtain ⟨g,t,cs,fuel,p,q,h1,h2,h3,h4,h5,_⟩:=h
    rcases List.mem_cons.1 hm with e | e
    · rw [e];exact ⟨g,t,cs,fuel,p,h1,h2,h3,h4⟩
    · exact ZcS h5 x e
theorem Reads.open {w : World} {n : String} {d : DataW Unit} {g t : Nat} (h : Reads w n d) (hg : Tryz.prog.globalNamed n = some g) (ht : (Tryz.prog.globals[g]?).map (·.type) = some t) :
  ∃ (cs : Array Value) (fuel : Nat) (p : List MemPlace),(∀ i,w.cell? ⟨g,i,none⟩ = cs.toList[i]?) ∧ DataW.trod (fun _ => ()) Tryz.prog w 0 (fun _ => true) false fuel t cs.toList = some (d,p):=by
 obtain ⟨g',t',cs,fuel,p,h1,h2,h3,h4⟩:=h;obtain rfl:=Option.some.inj (h1.symm.trans hg);obtain rfl:=Option.some.inj (h2.symm.trans ht);exact ⟨cs,fuel,p,fun i => by rw [World.var?_cell h1 h3 i,Array.getElem?_toList],h4⟩
theorem ZdM {w : World} {b o : Nat} {s : Option Nat} {v : Value} (h : w.cell? ⟨b,o,s⟩ = some v) : b < w.heap.size:=by
 rcases Nat.lt_or_ge b w.heap.size with h1 | h1
 ·exact h1
 ·exfalso;have : w.heap[b]? = none:=Array.getElem?_eq_none h1;simp [World.cell?,this] at h
theorem Zlv {w : World} {b o : Nat} {s : Option Nat} {v : Value} (h : w.cell? ⟨b,o,s⟩ = some v) : s = none:=by
 cases s with
 | none => rfl
 | some x =>
  unfold World.cell? at h;split at h <;> simp at h
theorem ZbP {cs : List Value} {o : Nat} {c : Value} (h : (cs.drop o).take 1 = [c]) : cs[o]? = some c:=by
 have:=congrArg (·[0]?) h
 simpa [List.getElem?_take,List.getElem?_drop] using this
noncomputable def ZdI (t : Nat) (l : List (Nat × Nat)) : Bool:=match Tryz.prog.underlying t with | some (.struct fs) => (fs.toList.map fun f => (f.type,f.offset)) == l | _ => false
section
variable {w : World} {fuel : Nat} {t : Nat} {cs : List Value} {p : List MemPlace}
theorem ZcQ {l : List (Nat × Nat)} {ds : List (DataW Unit)} (hl : ZdI t l = true) (h : DataW.trod (fun _ => ()) Tryz.prog w 0 (fun _ => true) false fuel t cs = some (.agg ds,p)) (i a o : Nat) (hi : l[i]? = some (a,o)) (hc : Tryz.prog.cellsOf a = 1) (d : DataW Unit) (hd : ds[i]? = some d) :
  ∃ n q,DataW.trod (fun _ => ()) Tryz.prog w 0 (fun _ => true) false n a ((cs.drop o).take 1) = some (d,q):=by
 unfold ZdI at hl;split at hl
 ·rename_i fs hu
  have hl:=eq_of_beq hl;obtain ⟨xs,n,_,hx,_,hxl,hall⟩:=DataW.trod_struct hu h
  have hds : xs.map (·.1) = ds:=by
   have:=congrArg Prod.fst hx
   simpa using this.symm
  rw [← hl,List.getElem?_map] at hi;obtain ⟨f,hf,hfa⟩:=Option.map_eq_some_iff.1 hi;rw [← hds,List.getElem?_map] at hd;obtain ⟨x,hx1,hx2⟩:=Option.map_eq_some_iff.1 hd;have h1:=hall i f (by rw [← Array.getElem?_toList];exact hf);injection hfa with e1 e2;rw [hx1,e1,e2,hc] at h1;exact ⟨n,x.2,by rw [h1,← hx2]⟩
 ·cases hl
theorem Zc9 {k : IntKind} {z : Int} {o : Nat} {q : List MemPlace} (hu : Tryz.prog.underlying t = some (.int k)) (h : DataW.trod (fun _ => ()) Tryz.prog w 0 (fun _ => true) false fuel t ((cs.drop o).take 1) = some (.lit (.int k z),q)) : cs[o]? = some (.int k z):=by
 obtain ⟨n,h1,h2,_⟩:=DataW.trod_int hu h;have:=congrArg Prod.fst h2;simp only [DataW.lit.injEq,Lit.int.injEq,true_and] at this;rw [this];exact ZbP h1
theorem ZlM {b : List UInt8} {o : Nat} {q : List MemPlace} (hu : Tryz.prog.underlying t = some .string) (h : DataW.trod (fun _ => ()) Tryz.prog w 0 (fun _ => true) false fuel t ((cs.drop o).take 1) = some (.lit (.string b),q)) : ∃ s : ByteArray,cs[o]? = some (.string s) ∧ s.data.toList = b:=by
 obtain ⟨s,h1,h2,_⟩:=DataW.trod_string hu h;have:=congrArg Prod.fst h2;simp only [DataW.lit.injEq,Lit.string.injEq] at this;exact ⟨s,ZbP h1,this.symm⟩
theorem ZkQ {k : FloatKind} {z : Nat} (hu : Tryz.prog.underlying t = some (.float k)) (h : DataW.trod (fun _ => ()) Tryz.prog w 0 (fun _ => true) false fuel t cs = some (.lit (.float k z),p)) : cs = [.float k z]:=by
 cases fuel with
 | zero => simp [DataW.trod] at h
 | succ n =>
  unfold DataW.trod at h;rw [hu] at h;split at h <;> simp_all
theorem Zhp {e c : Nat} {ds : List (DataW Unit)} (ht : Tryz.prog.underlying t = some (.slice e)) (hc : Tryz.prog.cellsOf e = c) (hc0 : 0 < c) (hne : ds ≠ [])
  (h : DataW.trod (fun _ => ()) Tryz.prog w 0 (fun _ => true) false fuel t cs = some (.slice ds [],p)) :
  ∃ b o cap,cs = [.slice (some ⟨b,o,none⟩) ds.length cap] ∧ b < w.heap.size ∧ ds.length ≤ cap ∧ ∀ i d,ds[i]? = some d → ∃ L n q,(∀ j,j < c → w.cell? ⟨b,o + i * c + j,none⟩ = L[j]?) ∧ L.length = c ∧ DataW.trod (fun _ => ()) Tryz.prog w 0 (fun _ => true) false n e L = some (d,q):=by
 rcases DataW.trod_slice ht h with ⟨_,hx⟩ | ⟨a,len,cap,elems,rest,n,_,hcs,hx,_,hl,_,hlen,hel,_⟩
 ·simp at hx
 ·simp only [Prod.mk.injEq,DataW.slice.injEq] at hx;obtain ⟨⟨rfl,_⟩,_⟩:=hx;have el : (elems.map (·.1)).length = len:=by simpa using hlen
  have key : ∀ i d,(elems.map (·.1))[i]? = some d → ∃ L q,(∀ j,j < c → w.cell? ((a.add (i * c)).add j) = L[j]?) ∧ L.length = c ∧ DataW.trod (fun _ => ()) Tryz.prog w 0 (fun _ => true) false n e L = some (d,q):=by
   intro i d hd;(have hi : i < len:=by rw [← el];exact (List.getElem?_eq_some_iff.1 hd).1);have hE:=hel i hi;rw [hc] at hE;rw [List.getElem?_map] at hd;obtain ⟨y,hy1,hy2⟩:=Option.map_eq_some_iff.1 hd;rw [hy1] at hE;obtain ⟨L,hL,hy⟩:=Option.bind_eq_some_iff.1 hE;obtain ⟨_,k1,k2⟩:=World.cells?_some hL;exact ⟨L,y.2,k2,k1,by rw [hy,← hy2]⟩
  have hpos : 0 < (elems.map (·.1)).length:=List.length_pos_iff.2 hne;obtain ⟨L0,q0,h0,h0l,_⟩:=key 0 _ (List.getElem?_eq_getElem hpos);obtain ⟨b,o,s⟩:=a;have hcell:=h0 0 hc0;rw [List.getElem?_eq_getElem (by omega)] at hcell;(have e0 : (Addr.add ⟨b,o,s⟩ (0 * c)).add 0 = ⟨b,o,s⟩:=by rw [Nat.zero_mul];simp [Addr.add]);rw [e0] at hcell;have hb:=ZdM hcell;obtain rfl:=Zlv hcell;(have hadd : ∀ x y : Nat,(Addr.add ⟨b,o,none⟩ x).add y = ⟨b,o + x + y,none⟩:=fun x y => by rw [Addr.add_lit,Addr.add_lit]);refine ⟨b,o,cap,by rw [el];exact hcs,hb,by rw [el];exact hl,fun i d hd => ?_⟩;obtain ⟨L,q,k1,k2,k3⟩:=key i d hd;exact ⟨L,n,q,fun j hj => by rw [← hadd];exact k1 j hj,k2,k3⟩
end
theorem opt_of {w : World} (h : Reads w "internal/strconv.optimize" (.lit (.bool true))) : w.cell? ⟨7,0,none⟩ = some (.bool true):=by
 obtain ⟨cs,fuel,p,h1,h2⟩:=h.open (g:=7) (t:=4) (by kernel_rfl) (by kernel_rfl);obtain ⟨b,h3,h4⟩:=DataW.trod_bool (by kernel_rfl) h2;have:=congrArg Prod.fst h4;simp only [DataW.lit.injEq,Lit.bool.injEq] at this;rw [h1 0,h3,← this];rfl
theorem info_of {w : World} (h : Reads w "internal/strconv.float64info" (.agg [.lit (.int .u64 52),.lit (.int .u64 11),.lit (.int .i64 (-1023))])) : Zea w w.heap.size:=by
 obtain ⟨cs,fuel,p,h1,h2⟩:=h.open (g:=8) (t:=136) (by kernel_rfl) (by kernel_rfl);(have hf : ZdI 136 [(70,0),(70,1),(3,2)] = true:=by kernel_rfl);(have hu : Tryz.prog.underlying 70 = some (.int .u64):=by kernel_rfl);(have hi : Tryz.prog.underlying 3 = some (.int .i64):=by kernel_rfl);(have cu : Tryz.prog.cellsOf 70 = 1:=by kernel_rfl);(have ci : Tryz.prog.cellsOf 3 = 1:=by kernel_rfl);obtain ⟨_,_,a0⟩:=ZcQ hf h2 0 _ _ rfl cu _ rfl;obtain ⟨_,_,a1⟩:=ZcQ hf h2 1 _ _ rfl cu _ rfl;obtain ⟨_,_,a2⟩:=ZcQ hf h2 2 _ _ rfl ci _ rfl;have b0:=(h1 0).trans (Zc9 hu a0);exact ⟨ZdM b0,b0,(h1 1).trans (Zc9 hu a1),(h1 2).trans (Zc9 hi a2)⟩
def tensOk (l : List Nat) : Bool:=(List.range 23).all fun n => match Ieee.double.read (l.getD n 0) with | .number false m i => decide (l.getD n 0 < 9223372036854775808) && decide (m * 2 ^ i.toNat = 10 ^ n * 2 ^ (-i).toNat) | _ => false
theorem Zh7 {l : List Nat} (h : tensOk l = true) (n : Nat) (hn : n ≤ 22) : Whole (l.getD n 0) (10 ^ n):=by
 have:=List.all_eq_true.1 h n (List.mem_range.2 (by omega));split at this
 ·rename_i m i hr
  rw [Bool.and_eq_true,decide_eq_true_iff,decide_eq_true_iff] at this;exact ⟨this.1,m,i,hr,this.2⟩
 ·cases this
def Zdb : List Nat:=[4607182418800017408,4621819117588971520,4636737291354636288,4652007308841189376,4666723172467343360,4681608360884174848,4696837146684686336,4711630319722168320,4726483295884279808,4741671816366391296,4756540486875873280,4771362005757984768,4786511204640096256,4801453603149578240,4816244402031689728,4831355200913801216,4846369599423283200,4861130398305394688,4876203697187506176,4891288408196988160,4906019910204099648,4921056587992461136,4936209963552724370]
theorem tens_of {w : World} (h : Reads w "internal/strconv.float64pow10" (.slice (Zdb.map fun x => .lit (.float .f64 x)) [])) : Tens w w.heap.size:=by
 obtain ⟨cs,fuel,p,h1,h2⟩:=h.open (g:=11) (t:=174) (by kernel_rfl) (by kernel_rfl);(have hu : Tryz.prog.underlying 80 = some (.float .f64):=by kernel_rfl);obtain ⟨b,o,cap,hcs,hb,hcap,hel⟩:=Zhp (e:=80) (c:=1) (by kernel_rfl) (by kernel_rfl) (by omega) (by decide) h2;have b0:=h1 0;rw [hcs] at b0;refine ⟨b,o,cap,hb,ZdM b0,b0,fun n hn => ?_⟩;have hlen : Zdb.length = 23:=rfl
 have hget : Zdb[n]? = some (Zdb.getD n 0):=by
  rw [List.getD_eq_getElem?_getD,List.getElem?_eq_getElem (by omega)];rfl
 obtain ⟨L,m,q,k1,k2,k3⟩:=hel n (.lit (.float .f64 (Zdb.getD n 0))) (by rw [List.getElem?_map,hget];rfl);have k4:=ZkQ hu k3;refine ⟨Zdb.getD n 0,?_,Zh7 (by decide +kernel) n hn⟩;have:=k1 0 (by omega);rw [k4,Nat.mul_one,Nat.add_zero] at this;exact this
theorem tab9_of {w : World} (h : Reads w "internal/strconv.powtab" (.slice ([1,3,6,9,13,16,19,23,26].map fun (x : Int) => .lit (.int .i64 x)) [])) : Tab9 w w.heap.size:=by
 obtain ⟨cs,fuel,p,h1,h2⟩:=h.open (g:=10) (t:=172) (by kernel_rfl) (by kernel_rfl);(have hu : Tryz.prog.underlying 3 = some (.int .i64):=by kernel_rfl);obtain ⟨b,o,cap,hcs,hb,hcap,hel⟩:=Zhp (e:=3) (c:=1) (by kernel_rfl) (by kernel_rfl) (by omega) (by decide) h2;have b0:=h1 0;rw [hcs] at b0;refine ⟨b,o,cap,hb,ZdM b0,hcap,b0,fun n hn => ?_⟩;have hn9 : n = 0 ∨ n = 1 ∨ n = 2 ∨ n = 3 ∨ n = 4 ∨ n = 5 ∨ n = 6 ∨ n = 7 ∨ n = 8:=by omega
 have main : ∀ z : Int,([1,3,6,9,13,16,19,23,26].map fun (x : Int) => (DataW.lit (.int .i64 x) : DataW Unit))[n]? = some (.lit (.int .i64 z)) → w.cell? ⟨b,o + n,none⟩ = some (.int .i64 z):=by
  intro z hz;obtain ⟨L,m,q,k1,k2,k3⟩:=hel n _ hz
  have k4 : DataW.trod (fun _ => ()) Tryz.prog w 0 (fun _ => true) false m 3 ((L.drop 0).take 1) = some (.lit (.int .i64 z),q):=by
   rw [List.drop_zero,List.take_of_length_le (by omega)];exact k3
  have k5:=Zc9 hu k4;have:=k1 0 (by omega);rw [k5,Nat.mul_one,Nat.add_zero] at this;exact this
 rcases hn9 with rfl | rfl | rfl | rfl | rfl | rfl | rfl | rfl | rfl <;> exact main _ rfl
def powOk (l : List (Nat × Nat)) : Bool:=decide (l.length = 696) && (List.range 696).all fun i => decide ((l.getD i (0,0)).1 < 18446744073709551616) && decide ((l.getD i (0,0)).2 < 18446744073709551616) && decide ((l.getD i (0,0)).1 * 18446744073709551616 = US.pm ((i : Int) - 348) + (l.getD i (0,0)).2)
set_option maxRecDepth 100000 in
theorem Zoh : powOk Pinned.pow10Rows = true:=by decide +kernel
theorem Zoi {w : World} (l : List (Nat × Nat)) (hok : powOk l = true) (h : Reads w "internal/strconv.pow10Tab" (.agg (l.map fun x => .agg [.lit (.int .u64 x.1),.lit (.int .u64 x.2)]))) : Zj1 w w.heap.size:=by
 unfold powOk at hok;rw [Bool.and_eq_true,decide_eq_true_iff] at hok;obtain ⟨hlen,hall⟩:=hok;obtain ⟨cs,fuel,p,h1,h2⟩:=h.open (g:=13) (t:=182) (by kernel_rfl) (by kernel_rfl);(have hf : ZdI 181 [(28,0),(28,1)] = true:=by kernel_rfl);(have hu : Tryz.prog.underlying 28 = some (.int .u64):=by kernel_rfl);(have cu : Tryz.prog.cellsOf 28 = 1:=by kernel_rfl);(have ce : Tryz.prog.cellsOf 181 = 2:=by kernel_rfl);have harr : Tryz.prog.underlying 182 = some (.array 696 181):=by kernel_rfl
 have key : ∀ i,i < 696 → w.cell? ⟨13,i * 2,none⟩ = some (.int .u64 ((l.getD i (0,0)).1 : Nat)) ∧ w.cell? ⟨13,i * 2 + 1,none⟩ = some (.int .u64 ((l.getD i (0,0)).2 : Nat)):=by
  intro i hi
  have hget : l[i]? = some (l.getD i (0,0)):=by
   rw [List.getD_eq_getElem?_getD,List.getElem?_eq_getElem (by omega)];rfl
  cases fuel with
  | zero => simp [DataW.trod] at h2
  | succ fuel =>
   unfold DataW.trod at h2;simp only [harr] at h2;split at h2
   ·obtain ⟨xs,hm,hx⟩:=Option.map_eq_some_iff.1 h2;obtain ⟨b,hb,hf2⟩:=Lib.mapM_at hm i i (by simp [hi])
    have hds : xs.map (·.1) = l.map fun x => (.agg [.lit (.int .u64 x.1),.lit (.int .u64 x.2)] : DataW Unit):=by
     have:=congrArg Prod.fst hx
     simpa using this
    have hb1 : b.1 = .agg [.lit (.int .u64 (l.getD i (0,0)).1),.lit (.int .u64 (l.getD i (0,0)).2)]:=by
     have:=congrArg (·[i]?) hds;simp only [List.getElem?_map,hb,hget,Option.map_some,Option.some.injEq] at this;exact this
    rw [ce] at hf2;obtain ⟨_,_,a0⟩:=ZcQ (p:=b.2) hf (by rw [← hb1];exact hf2) 0 _ _ rfl cu _ rfl;obtain ⟨_,_,a1⟩:=ZcQ (p:=b.2) hf (by rw [← hb1];exact hf2) 1 _ _ rfl cu _ rfl;have c0:=Zc9 hu a0;have c1:=Zc9 hu a1;rw [List.getElem?_take,List.getElem?_drop] at c0 c1;exact ⟨(h1 _).trans (by simpa using c0),(h1 _).trans (by simpa using c1)⟩
   ·cases h2
 have hblk:=ZdM (key 0 (by omega)).1;refine ⟨hblk,fun p hp1 hp2 => ?_⟩;obtain ⟨k0,k1⟩:=key (p + 348).toNat (by omega);have hc:=List.all_eq_true.1 hall (p + 348).toNat (List.mem_range.2 (by omega));rw [Bool.and_eq_true,Bool.and_eq_true,decide_eq_true_iff,decide_eq_true_iff,decide_eq_true_iff] at hc;obtain ⟨⟨e1,e2⟩,e3⟩:=hc;refine ⟨_,_,k0,k1,e1,e2,?_⟩;rw [show (((p + 348).toNat : Nat) : Int) - 348 = p by omega] at e3;omega
theorem pow_of {w : World} (h : Reads w "internal/strconv.pow10Tab" Pinned.pow10Tab) : Zj1 w w.heap.size:=Zoi Pinned.pow10Rows Zoh h
def ZhP (k : Nat) (x : Nat × List UInt8) : Bool:=decide (numL (x.2.map fun c => c.toNat - 48) = 5 ^ k) && ((x.2.map fun c => c.toNat - 48).all (fun d => decide (d < 10)) && (endB (x.2.map fun c => c.toNat - 48) && (decide ((10 : Nat) ^ (x.2.map fun c => c.toNat - 48).length ≤ 5 ^ k * 10) && (decide (x.1 + (x.2.map fun c => c.toNat - 48).length = k + 1) && (decide (x.2.length ≤ 100) && (x.2.all (fun c => decide (48 ≤ c.toNat)) && decide (x.1 ≤ 19)))))))
theorem Zny {k : Nat} {x : Nat × List UInt8} (h : ZhP k x = true) : ZoW k x.1 (x.2.map fun c => c.toNat - 48) ∧ x.2.length ≤ 100 ∧ (∀ c ∈ x.2,48 ≤ c.toNat) ∧ x.1 ≤ 19:=by
 unfold ZhP at h;obtain ⟨e1,h⟩:=Bool.and_eq_true_iff.1 h;obtain ⟨e2,h⟩:=Bool.and_eq_true_iff.1 h;obtain ⟨e3,h⟩:=Bool.and_eq_true_iff.1 h;obtain ⟨e4,h⟩:=Bool.and_eq_true_iff.1 h;obtain ⟨e5,h⟩:=Bool.and_eq_true_iff.1 h;obtain ⟨e6,h⟩:=Bool.and_eq_true_iff.1 h;obtain ⟨e7,e8⟩:=Bool.and_eq_true_iff.1 h;exact ⟨⟨of_decide_eq_true e1,fun d hd => of_decide_eq_true (List.all_eq_true.1 e2 d hd),e3,of_decide_eq_true e4,of_decide_eq_true e5⟩,of_decide_eq_true e6,fun c hc => of_decide_eq_true (List.all_eq_true.1 e7 c hc),of_decide_eq_true e8⟩
def ZjQ (l : List (Nat × List UInt8)) : Bool:=decide (l.length = 61) && (List.range 60).all fun i => ZhP (i + 1) (l.getD (i + 1) (0,[]))
set_option maxRecDepth 100000 in
theorem Zlu : ZjQ Pinned.cheatRows = true:=by decide +kernel
theorem ZjP {w : World} (l : List (Nat × List UInt8)) (hok : ZjQ l = true) (h : Reads w "internal/strconv.leftcheats" (.slice (l.map fun x => .agg [.lit (.int .i64 x.1),.lit (.string x.2)]) [])) : Zc7 w w.heap.size:=by
 unfold ZjQ at hok;rw [Bool.and_eq_true,decide_eq_true_iff] at hok;obtain ⟨hlen,hall⟩:=hok;obtain ⟨cs,fuel,p,h1,h2⟩:=h.open (g:=14) (t:=190) (by kernel_rfl) (by kernel_rfl);(have hf : ZdI 189 [(3,0),(9,1)] = true:=by kernel_rfl);(have hi : Tryz.prog.underlying 3 = some (.int .i64):=by kernel_rfl);(have hs : Tryz.prog.underlying 9 = some .string:=by kernel_rfl);(have ci : Tryz.prog.cellsOf 3 = 1:=by kernel_rfl);(have cst : Tryz.prog.cellsOf 9 = 1:=by kernel_rfl);obtain ⟨b,o,cap,hcs,hb,hcap,hel⟩:=Zhp (e:=189) (c:=2) (by kernel_rfl) (by kernel_rfl) (by omega) (by rw [ne_eq,← List.length_eq_zero_iff,List.length_map];omega) h2;rw [List.length_map,hlen] at hcs;have b0:=h1 0;rw [hcs] at b0;refine ⟨b,o,cap,hb,ZdM b0,b0,fun k hk1 hk2 => ?_⟩
 have hget : l[k]? = some (l.getD k (0,[])):=by
  rw [List.getD_eq_getElem?_getD,List.getElem?_eq_getElem (by omega)];rfl
 have hc:=List.all_eq_true.1 hall (k - 1) (List.mem_range.2 (by omega));rw [show k - 1 + 1 = k by omega] at hc;generalize l.getD k (0,[]) = x at hget hc;obtain ⟨hch,e6,e7,e8⟩:=Zny hc;obtain ⟨L,m,q,k1,k2,k3⟩:=hel k _ (by rw [List.getElem?_map,hget];rfl);obtain ⟨_,_,a0⟩:=ZcQ hf k3 0 _ _ rfl ci _ rfl;obtain ⟨_,_,a1⟩:=ZcQ hf k3 1 _ _ rfl cst _ rfl;have c0:=Zc9 hi a0;obtain ⟨s,c1,hsd⟩:=ZlM hs a1;have d0:=(k1 0 (by omega)).trans c0;have d1:=(k1 1 (by omega)).trans c1;(have hsz : s.size = x.2.length:=by rw [← hsd];simp);refine ⟨x.1,s,_,d0,d1,hch,by rw [List.length_map,hsz],by rw [hsz];exact e6,fun i hi2 => ?_,e8⟩
 ·have hbyte : x.2[i]? = some s[i]:=by
   rw [← hsd,Array.getElem?_toList];exact Array.getElem?_eq_getElem (show i < s.data.size from hi2)
  have h48:=e7 _ (List.mem_of_getElem? hbyte);rw [List.getD_eq_getElem?_getD,List.getElem?_map,hbyte];exact (Nat.add_sub_cancel' h48).symm
theorem Znx {w : World} (h : Reads w "internal/strconv.leftcheats" Pinned.leftcheats) : Zc7 w w.heap.size:=ZjP Pinned.cheatRows Zlu h
theorem err_of {w : World} {nm : String} {d : DataW Unit} (h : Reads w "strconv.ErrRange" (.iface nm d)) : 1 < w.heap.size ∧ ∃ ev,w.cell? ⟨1,0,none⟩ = some ev ∧ (ev = .nilIface ∨ ∃ te pe,ev = .iface te pe):=by
 obtain ⟨cs,fuel,p,h1,h2⟩:=h.open (g:=1) (t:=62) (by kernel_rfl) (by kernel_rfl)
 obtain ⟨ms,hms⟩ : ∃ ms,Tryz.prog.underlying 62 = some (.interface ms):=by
  (have h : (match Tryz.prog.underlying 62 with | some (.interface _) => true | _ => false) = true:=by kernel_rfl);split at h
  ·rename_i ms e;exact ⟨ms,e⟩
  ·cases h
 have hcs : ∃ ev,cs.toList = [ev] ∧ (ev = .nilIface ∨ ∃ te pe,ev = .iface te pe):=by
  obtain ⟨_,u,v,k,_,_⟩:=iface_of_trod hms h2;exact ⟨_,k,.inr ⟨u,v,rfl⟩⟩
 obtain ⟨ev,e1,e2⟩:=hcs;have b0:=h1 0;rw [e1] at b0;exact ⟨ZdM b0,ev,b0,e2⟩
end Go.Proofs.YtfoekmfpcahmiabGreatDoor.SF
