-- by this session's own program mp.py over the kit's printer
import Derived.Test.YtfoekmfpcahmiabGreatDoorSQJoFnTokens
import Derived.Test.YtfoekmfpcahmiabGreatDoorSQLT
import Derived.OpenShut
import Derived.ShutString
import Derived.Test.YtfoekmfpcahmiabGreatDoorVQSized
import Derived.Lay
import Derived.Test.YtfoekmfpcahmiabGreatDoorTie
import Derived.Test.YtfoekmfpcahmiabGreatDoorCards
import Derived.Test.YtfoekmfpcahmiabGreatDoorSQK8
namespace Go.Proofs.YtfoekmfpcahmiabGreatDoor.fnTokens
open Go.ChangeShapes Go.WideShapes Go.ChangeAt Go.RowKit
open Go.ChangeMaps (open_string shut_string)
set_option linter.unusedVariables false
open Go.Proofs.YtfoekmfpcahmiabGreatDoor.SF in
theorem home {W : World} (h : laidMet Tryz.prog Rows.fnTokensRow.laid W) : Home W W.heap.size:=by
  obtain ⟨ps,hv,_⟩:=h;have r0:=ZcS hv ("internal/strconv.float64info", Rows.laid_internal_strconv_float64info) (List.mem_of_getElem? (i:=3) rfl);have r1:=ZcS hv ("internal/strconv.optimize", Rows.laid_internal_strconv_optimize) (List.mem_of_getElem? (i:=4) rfl);have r2:=ZcS hv ("internal/strconv.powtab", Rows.laid_internal_strconv_powtab) (List.mem_of_getElem? (i:=5) rfl);have r3:=ZcS hv ("internal/strconv.float64pow10", Rows.laid_internal_strconv_float64pow10) (List.mem_of_getElem? (i:=6) rfl);have r4:=ZcS hv ("strconv.ErrRange", Rows.laid_strconv_ErrRange) (List.mem_of_getElem? (i:=10) rfl);have r5:=ZcS hv ("internal/strconv.leftcheats", Rows.laid_internal_strconv_leftcheats) (List.mem_of_getElem? (i:=12) rfl);have r6:=ZcS hv ("internal/strconv.pow10Tab", Rows.laid_internal_strconv_pow10Tab) (List.mem_of_getElem? (i:=13) rfl);(have e3 : (Rows.laid_internal_strconv_float64pow10 : DataW Unit) = .slice (Zdb.map fun x => .lit (.float .f64 x)) []:=by kernel_rfl);(have e2 : (Rows.laid_internal_strconv_powtab : DataW Unit) = .slice ([1,3,6,9,13,16,19,23,26].map fun (x : Int) => .lit (.int .i64 x)) []:=by kernel_rfl);simp only [e3] at r3;simp only [e2] at r2;have ho:=opt_of r1;obtain ⟨k1,k2⟩:=err_of r4;exact ⟨⟨info_of r0,tens_of r3,pow_of r6,Znx r5,tab9_of r2,ZdM ho,ho⟩,k1,k2⟩
theorem own : ownKnob Tryz.prog.godebug = none:=by kernel_rfl
theorem laidOut : laidOutB Tryz.prog = true:=by kernel_rfl
def IsRow (k : IntKind) (w : World) (a : Option Addr) (len cap : Nat) (zs : List Int) : Prop :=
  (a = none ∧ len = 0 ∧ cap = 0 ∧ zs = []) ∨
  ∃ x,a = some x ∧ len ≤ cap ∧ cap ≤ maxLen ∧ zs.length = cap ∧ (∀ i,i < zs.length → w.cell? (x.add i) = some (.int k (zs.getD i 0))) ∧ ∀ n ∈ zs,(Lit.int k n).wf = true
set_option maxRecDepth 100000 in
theorem lifted (os : Os) (started : os.Started) (H : Type) (enc : TypeId × Value → H) :
    ReturnsInHanded {} Tryz.checked os 3 .any (fun w args => (Rows.fnTokensSpec.pre enc Tryz.prog Tryz.f3 Rows.fnTokensRow.domain false w args ∧ laidMetH Tryz.prog Rows.fnTokensRow.laid w) ∧ sizedMet enc Tryz.prog Tryz.f3 (OpenSpec.ofChange Rows.fnTokensSpec) false w args) (Rows.fnTokensSpec.post enc Tryz.prog Tryz.f3 false true false false):=by
  refine returnsInHanded_of_change_and (C:=Tryz.checked) (X:=fun w _ => laidMetH Tryz.prog Rows.fnTokensRow.laid w) (fun _ _ _ hh h => h.of_heap hh) own started (by kernel_rfl) Tryz.func3
    (ChangeSpec.witness_shaped (enc:=enc) (C:=Tryz.checked) (os:=os) (X:=fun w _ => laidMetH Tryz.prog Rows.fnTokensRow.laid w) false (World.laidAll Tryz.prog os Rows.fnTokensRow.laid) #[.slice none 0 0] 8 (World.laidAll_os _ _ _)
      (World.shaped_of_ZipB (by kernel_rfl) (by kernel_rfl)) (by kernel_rfl) (by kernel_rfl) (by kernel_rfl)
      (by rw [MakeChecks.laidMetH_plain _ _ _ (by kernel_rfl)];exact laidMet_laidAll _ (by kernel_rfl) (by kernel_rfl))) ?_
  intro W base args ds gs before hval0 hW hcnd hsz0 hL _;have hsz : (DataW.weightsEach Tryz.prog (Tryz.f3.params.toList ++ Rows.fnTokensSpec.plain.varTypes Tryz.prog) (ds ++ gs)).all (· ≤ reachBytes) = true:=hsz0;have hval : ∀ (j : Nat) t v,Tryz.f3.params[j]? = some t → args[j]? = some v → Value.okWide Tryz.prog W .any base t v:=hval0;have hW':=hW;obtain ⟨p,q,hA0,hV,rfl,hfz,hnd⟩:=hW;have hA : DataW.TrodAll enc Tryz.prog W 0 (fun _ => true) true Tryz.f3.params.toList args.toList ds p:=hA0;rw [Tryz.params3] at hA hval hsz;obtain ⟨v0,vs0,d0,ds0,p0,q0,hargs,rfl,rfl,h0,r0⟩:=trodAll_cons hA;obtain ⟨rfl,rfl,rfl⟩:=trodAll_nil r0;(obtain rfl : args = #[v0]:=by cases args;simp_all);obtain ⟨rfl,rfl⟩:=trodVars_none hV;obtain ⟨a0,len0,cap0,rfl⟩:=okWide_slice Tryz.underlying22 (hval 0 22 v0 rfl rfl);have k0:=h0;have lt0 : ∀ x ∈ p0,x.block < W.heap.size:=by obtain ⟨m,hm⟩:=k0;exact DataW.trod_lt m _ _ _ hm
  obtain ⟨z0,w0⟩ : ∃ zs,IsRow .u8 W a0 len0 cap0 zs:=by
    obtain ⟨fuel,hf⟩:=h0;rcases open_ints Tryz.underlying22 Tryz.underlying5 (by kernel_rfl) hf with ⟨hcs,_⟩ | ⟨x,l,c,zs,hcs,_,hl,hm,hz,_,hcell,hwz⟩
    · simp [Value.cells] at hcs;obtain ⟨rfl,rfl,rfl⟩:=hcs;exact ⟨[],.inl ⟨rfl,rfl,rfl,rfl⟩⟩
    · simp [Value.cells] at hcs;obtain ⟨rfl,rfl,rfl⟩:=hcs;exact ⟨zs,.inr ⟨_,rfl,hl,hm,by simpa using hz,hcell,hwz⟩⟩
  have y0 : len0 * 1 ≤ 140737488351232:=Go.Proofs.YtfoekmfpcahmiabGreatDoorW.PrintWords.Zk0 hsz (j:=0) (t:=22) rfl rfl Tryz.underlying22 Tryz.underlying5 (by kernel_rfl) (by kernel_rfl) h0;clear hA0 hval0 hsz0 hsz;rw [MakeChecks.laidMetH_plain _ _ _ (by kernel_rfl)] at hL;refine (LT.walk a0 len0 cap0 z0 W ⟨W.heap.size,Nat.le_refl _,home hL⟩ w0 y0).mono fun e W' ⟨he,bel⟩ => ?_;subst he;exact ⟨_,rfl,_,_,_,[],_,[],hW',trodAll_mk1 (shut_bool Tryz.underlying4 _),(trodAll_cons_mk (Below.trod laidOut (by kernel_rfl) (of_decide_eq_true (by kernel_rfl)) k0 bel lt0) trodAll_mk0),rfl,bel.frame _,fun h => by cases h⟩
theorem over : Rows.fnTokensRow.holds Tryz.pinned (OpenSpec.ofChange Rows.fnTokensSpec) :=
  OpenClaim.holds_of_wide 3 Tryz.f3 rfl rfl rfl rfl rfl rfl rfl ⟨rfl,rfl,rfl,rfl,rfl⟩ rfl rfl rfl rfl rfl (by kernel_rfl) Tryz.func3 ZjM
    (of_decide_eq_true (by kernel_rfl)) (by unfold Func.isWrapper;first | (rw [if_pos (by decide +kernel)];kernel_rfl) | (rw [if_neg (by decide +kernel)];exact ⟨rfl,rfl⟩))
    (fun os started H enc _ => lifted os started H enc)
theorem card : Rows.FnTokensCardSaid :=
  Claim7.holds_tied_plain_at .later [] [.data,.data,.widerDeep,.widerDeep,.data,.data,.data,.data,.data,.data,.sentinel,.sentinel,.pinned,.pinned,.pinned] true (true, "d1bbdcc015e77fa1bd04dc31569f698c339ed74fd954a3a68c057ce534810fdd") true over (fun _ h => by cases h) (by kernel_rfl) (fun _ h => by cases h) fnTokens_row_tie rfl ⟨rfl,rfl⟩ (by kernel_rfl) rfl
    (fun f fn hf hfn => by
      obtain rfl : f = 3:=Option.some.inj ((show Tryz.prog.funcNamed "loop.example/g00115/laws.FnTokens" = some 3 by kernel_rfl).symm.trans hf) |>.symm
      obtain rfl : fn = Tryz.f3:=(Option.some.inj (Tryz.func3.symm.trans hfn)).symm
      exact ⟨by kernel_rfl,fun j t ht => by
        rw [Tryz.params3] at ht
        have hm : t ∈ [22]:=by simpa using Array.mem_of_getElem? ht
        have hall : ([22].all fun u => !Tryz.prog.wantsStandIn u) = true:=by kernel_rfl
        exact (show Tryz.prog.wantsStandIn t = false by simpa using List.all_eq_true.1 hall t hm)⟩)
    (by kernel_rfl)
#print axioms card
end Go.Proofs.YtfoekmfpcahmiabGreatDoor.fnTokens
namespace Go.Proofs.YtfoekmfpcahmiabGreatDoor
theorem fnTokensCard_holds : Rows.FnTokensCardSaid:=fnTokens.card
end Go.Proofs.YtfoekmfpcahmiabGreatDoor
