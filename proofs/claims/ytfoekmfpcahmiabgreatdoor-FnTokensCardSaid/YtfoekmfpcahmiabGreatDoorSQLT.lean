/- This session's text, made small by mini.py. No condition beyond those typed. -/
import Derived.Test.YtfoekmfpcahmiabGreatDoorSQPureFnTokens
import Derived.Test.YtfoekmfpcahmiabGreatDoorSQK9
namespace Go.Proofs.YtfoekmfpcahmiabGreatDoor.LT
open Go Go.RowKit Go.Proofs.YtfoekmfpcahmiabGreatDoor Go.Proofs.YtfoekmfpcahmiabGreatDoor.MFnTokens Go.Proofs.YtfoekmfpcahmiabGreatDoorW.PrintWords Go.Proofs.YtfoekmfpcahmiabGreatDoorW.PrintLast Go.Proofs.YtfoekmfpcahmiabGreatDoorW.PrintMore Go.Proofs.YtfoekmfpcahmiabGreatDoor.CB Go.Proofs.YtfoekmfpcahmiabGreatDoor.Pure
set_option linter.unusedSimpArgs false
set_option linter.unusedVariables false
abbrev Tok:=Int × List UInt8 × Int × Nat
theorem Zmp (l : List Tok) (i : Nat) (h : i < l.length) : ZgZ (l.map toS) (i : Int) = toS l[i]:=by
  unfold ZgZ;rw [Int.toNat_natCast,List.getD_eq_getElem?_getD,List.getElem?_map,List.getElem?_eq_getElem h];rfl
theorem Zol {t : List UInt8} {en i : Nat} {l : List Tok} {K X : Int} {T : List UInt8} {P : Nat} (h : Zfj t en (l.drop i)) (hi : i < l.length) (e : l[i] = (K,T,X,P)) :
    en ≤ P ∧ (t.drop P).take (Zcf K T).length = Zcf K T ∧ P + (Zcf K T).length ≤ t.length ∧ Zfj t (P + (Zcf K T).length) (l.drop (i + 1)):=by
  rw [List.drop_eq_getElem_cons hi,e] at h;exact h
theorem wide_at {i : Nat} {l : List Tok} {K X : Int} {T : List UInt8} {P : Nat} (hi : i < l.length) (e : l[i] = (K,T,X,P)) : ZcX (l.take (i + 1)) = ZcX (l.take i) ++ 32 :: Zcf K T:=by
  rw [List.take_succ_eq_append_getElem hi,ZhZ,e];show _ ++ 32 :: (Zcf K T ++ []) = _;rw [List.append_nil]
theorem same_at {l l' : List Tok} (h : l'.map keyT = l.map keyT) (i : Nat) (hi : i < l.length) (hi' : i < l'.length) : keyT l'[i] = keyT l[i]:=by
  (have h1 : (l'.map keyT)[i]? = (l.map keyT)[i]?:=by rw [h]);rw [List.getElem?_map,List.getElem?_map,List.getElem?_eq_getElem hi,List.getElem?_eq_getElem hi'] at h1;exact Option.some.inj h1
theorem Zn6 {l l' : List Tok} (h : l'.map keyT = l.map keyT) : l'.length = l.length:=by
  have:=congrArg List.length h
  simpa using this
theorem mul_st {i P a b c : Nat} (h : a ≤ c + i * P) (hb : b ≤ a + P) : b ≤ c + (i + 1) * P:=by rw [Nat.succ_mul];omega
theorem stands {t tx : ByteArray} {P : Nat} {F : List UInt8} (hx : tx.data.toList = F) (h : (t.data.toList.drop P).take F.length = F) : (t.extract P (P + tx.size)).toList = tx.toList:=by
  have hz : tx.size = F.length:=by rw [← hx,size_data]
  have e : t.extract P (P + tx.size) = tx:=by
    apply Zb0;rw [Zkx,hz,show P + F.length - P = F.length by omega,h,hx]
  rw [e]
set_option maxHeartbeats 4000000 in
set_option maxRecDepth 100000 in
theorem Zot (A0 : Option Addr) (c0 : Nat) (l0 : List Int) (w : World) (hm : G.ZgJ w) (hr0 : Kd.C (Kd.int .u8) w A0 l0.length l0) (hc0 : l0.length ≤ c0) (hl : l0.length ≤ 140737488351232) :
    Calls Tryz.prog 3 #[.slice A0 l0.length c0] w fun e w' => e = .returned (.bool true) ∧ Below w.heap.size w w':=by
  have hu:=Tryz.underlying30;go_enter Tryz.func3,Tryz.ntmps3;go_upto_if 17 with (first | (go_at_call 4;refine (ZhE.calls A0 c0 l0 _ _ hr0 hc0 rfl).mono ?_;rintro e w' ⟨rfl,⟨nd,rfl⟩⟩));have HB : Below w.heap.size w (w.drewN nd):=Zac (Below.refl _ w) nd;have hr1:=Kd.ZbX hr0 HB;generalize w.drewN nd = w1 at HB hr1 ⊢;rcases Bool.eq_false_or_eq_true (decide ((l0.length : Int) > 1048576)) with hb | hb
  · simp only [hb];go_wp2;go_ret;exact ⟨rfl,HB⟩
  simp only [hb];clear hb;go_upto_region 4 with (first | (go_at_call 5;refine (Gen.Zls A0 c0 l0 _ hr1 hc0 hl).mono ?_;rintro e w2 ⟨t,rfl,ht,hb2⟩));have HB:=Zao HB hb2;clear hb2 hr1;obtain ⟨k1,hk1⟩:=ZiK t;obtain ⟨R2,k2,hk2⟩:=ZlY t;have hI:=hk1 k1 (Nat.le_refl _);have hS:=hk2 k2 (Nat.le_refl _);clear hk1 hk2
  cases hsc : ZfZ t with
  | inl p =>
    rw [hsc] at hI hS
    go_upto_region 6 with (first
      | (go_at_call 6;refine (ZaY.calls k1 t _ _ _ (hm.below HB) hI).mono ?_;rintro e w3 ⟨v0,rfl,hR,hb3⟩;obtain ⟨A,c,rfl⟩:=Kd.Zbs hR;have HB:=Zao HB hb3)
      | (go_at_call 7;refine (Za5.calls k2 t _ _ _ hS).mono ?_;rintro e w4 ⟨v1,rfl,hR2,hb4⟩;have HB:=Zao HB hb4))
    have q1 : decide ((p : Int) ≥ 0) = true:=decide_eq_true (by omega);have q2 : decide (0 ≤ (p : Int)) = true:=decide_eq_true (by omega);go_wp2;go_ret;exact ⟨rfl,HB⟩
  | inr l =>
    rw [hsc] at hI hS;obtain ⟨q600,q200,hord⟩:=Zl8 hsc;obtain ⟨R,hRe⟩ : ∃ R,R = l.map toS:=⟨_,rfl⟩;(have hRn : R.length = l.length:=by rw [hRe,List.length_map]);(have hI2 : ZaY.f k1 t = some (R,-1):=by rw [hRe];exact hI);have HRe:=Zaa.mk hRe;have HRn:=Zaa.mk hRn;clear hI hRe hRn
    go_upto_region 6 with (first
      | (go_at_call 6;refine (ZaY.calls k1 t _ _ _ (hm.below HB) hI2).mono ?_;rintro e w3 ⟨v0,rfl,hR,hb3⟩;obtain ⟨A,c,rfl⟩:=Kd.Zbs hR;have HB:=Zao HB hb3;have hC:=(Kd.ZaP hR).2.2)
      | (go_at_call 7;refine (Za5.calls k2 t _ _ _ hS).mono ?_;rintro e w4 ⟨v1,rfl,hR2,hb4⟩;have HB:=Zao HB hb4;have hC:=Kd.ZbX hC hb4))
    have HSC:=Zaa.mk hsc;clear hR hR2 hb3 hb4 hS hI2 hsc;go_wp2;go_loopg [8,9,10] (l.length + 1) (fun kq v8 v9 v10 w' => ∃ (E : Int) (en : Nat) (W : ByteArray) (I : Int) (i : Nat),v8 = .int .i64 E ∧ v9 = .string W ∧ v10 = .int .i64 I ∧ Zaa (I = (i : Int) ∧ E = (en : Int) ∧ i + kq = l.length + 1 ∧ i ≤ l.length ∧ en ≤ 600 ∧ Zfj t.data.toList en (l.drop i) ∧ W.data.toList = ZcX (l.take i) ∧ W.size ≤ 0 + i * 601) ∧ Zaa (Below w4.heap.size w4 w'))
    case atStart => exact ⟨0,0,⟨#[]⟩,0,0,rfl,rfl,rfl,⟨rfl,rfl,by omega,by omega,by omega,hord,rfl,by decide⟩,⟨Below.refl _ _⟩⟩
    case round =>
      obtain ⟨E,en,W,I,i,rfl,rfl,rfl,HI,HBr⟩:=hrel;have HBr:=HBr.out;obtain ⟨z1,z2,z3,z4,z5,z6,z7,z8⟩:=HI.out;have hRn:=HRn.out;(have z9 : W.size ≤ 200 * 601:=by have:=Nat.mul_le_mul_right 601 (Nat.le_trans z4 q200);omega);clear HI;by_cases hi : i < l.length
      · have qI : decide (I < (R.length : Int)) = true:=decide_eq_true (by omega);obtain ⟨⟨K,T,X,P⟩,he⟩ : ∃ q,l[i] = q:=⟨_,rfl⟩;obtain ⟨o1,o2,o3,o4⟩:=Zol z6 hi he;have hrd:=Zmp l i hi;rw [he,← HRe.out,← z1] at hrd;obtain ⟨ad,eA,x0,x1,x2,x3⟩:=ZnI hC I (by omega) (by omega);cases eA;rw [hrd] at x0 x1 x2 x3;obtain ⟨Tb,hTb⟩ : ∃ Tb : ByteArray,Tb = ⟨T.toArray⟩:=⟨_,rfl⟩;obtain ⟨PI,hPI⟩ : ∃ PI : Int,PI = (P : Int):=⟨_,rfl⟩;replace x0 : wr.cell? (ad.add (I.toNat * 4)) = some (.int .i64 K):=(HBr.cell (World.block_lt_of_cell? _ _ x0)).trans x0;(replace x1 : wr.cell? ⟨(ad.add (I.toNat * 4)).block,(ad.add (I.toNat * 4)).off + 1,none⟩ = some (.string Tb):=by rw [hTb];exact (HBr.cell (World.block_lt_of_cell? _ _ x1)).trans x1);replace x2 : wr.cell? ⟨(ad.add (I.toNat * 4)).block,(ad.add (I.toNat * 4)).off + 2,none⟩ = some (.int .u64 X):=(HBr.cell (World.block_lt_of_cell? _ _ x2)).trans x2;(replace x3 : wr.cell? ⟨(ad.add (I.toNat * 4)).block,(ad.add (I.toNat * 4)).off + 3,none⟩ = some (.int .i64 PI):=by rw [hPI];exact (HBr.cell (World.block_lt_of_cell? _ _ x3)).trans x3);have i0:=eq_true (show 0 ≤ I by omega);have i1:=eq_true (show I < (R.length : Int) by omega);(have hTs : Tb.size = T.length:=by rw [hTb];rfl);have hlen : t.data.toList.length = t.size:=size_data t;(have hTl : T.length ≤ (Zcf K T).length:=by unfold Zcf;split <;> simp <;> omega);have HTb:=Zaa.mk hTb;have HPI:=Zaa.mk hPI;have HZ:=Zaa.mk (And.intro z1 z2);clear hTb hPI z1 z2 hrd hRn
        go_upto_if 52 with (first
          | ((with_reducible refine Zay (N:=11) rfl ?_);refine G.ZcD (N:=11) ?hg ?hg2 ?hd ?hd2 (x:=.tmp 47) (cs := #[.int .i64 0,.string (⟨#[]⟩ : ByteArray),.int .u64 0,.int .i64 0]) (cs' := #[.int .i64 K,.string Tb,.int .u64 X,.int .i64 PI]) (t:=30) ?hr rfl ?hx ?hN ?hi rfl ?h1 ?_;(case hd => rfl);(case hd2 => rfl);(case hg => rfl);(case hg2 => rfl);(case hr => first | (go_simp;done) | (go_simp;rfl));(case hx => intro _;rfl);(case hN => intro _;rfl);(case hi => kernel_rfl);(case h1 => simp [Value.oneCell']);intro g hg w5 hx5 hb5;have HB5:=Zao HBr hb5;clear hg hb5;have y0 : w5.cell? ⟨g,0,none⟩ = some (.int .i64 K):=(Zbq hx5 0).trans rfl;have y1 : w5.cell? ⟨g,1,none⟩ = some (.string Tb):=(Zbq hx5 1).trans rfl;have y3 : w5.cell? ⟨g,3,none⟩ = some (.int .i64 PI):=(Zbq hx5 3).trans rfl))
        go_cut [12] (fun v12 wc => ∃ tx : ByteArray,v12 = .string tx ∧ Zaa (tx.data.toList = Zcf K T) ∧ wc = w5)
        case first =>
          by_cases hK : K = 3
          · subst hK;(have s0_ : ¬ 9223372036854775807 < 1 + Tb.size:=by have : (Zcf 3 T).length = T.length + 2:=by { unfold Zcf;simp };omega);(have s1_ : ¬ 9223372036854775807 < 1 + Tb.size + 1:=by have : (Zcf 3 T).length = T.length + 2:=by { unfold Zcf;simp };omega);go_wp2;go_meet
            case rel => exact ⟨_,rfl,⟨by rw [HTb.out];simp [Zcf]⟩,rfl⟩
          · have hKb : (K == 3) = false:=beq_eq_false_iff_ne.mpr hK;simp only [hKb];go_wp2;go_meet
            case rel => exact ⟨_,rfl,⟨by rw [HTb.out];unfold Zcf;rw [if_neg hK]⟩,rfl⟩
        case rest =>
          obtain ⟨tx,rfl,Htx,rfl⟩:=hcut;have htx:=Htx.out;(have hn : tx.size = (Zcf K T).length:=by rw [← htx,size_data]);have hst:=stands (t:=t) (P:=P) htx o2;have hP:=HPI.out;have hz:=HZ.out;have w1_ : wrap64 (PI + (tx.size : Int)) = PI + (tx.size : Int):=w64 (by omega) (by omega);have r1 : decide (PI < E) = false:=decide_eq_false (by omega);have r2 : decide ((t.size : Int) < PI + (tx.size : Int)) = false:=decide_eq_false (by omega);have p1:=eq_true (show 0 ≤ PI by omega);have p2:=eq_true (show PI ≤ PI + (tx.size : Int) by omega);have p3:=eq_true (show PI + (tx.size : Int) ≤ (t.size : Int) by omega);(have e1 : (PI + (tx.size : Int)).toNat = P + tx.size:=by omega);(have e2 : PI.toNat = P:=by omega);have r3 : ((t.extract PI.toNat (PI + (tx.size : Int)).toNat).toList == tx.toList) = true:=beq_iff_eq.mpr (by rw [e1,e2];exact hst);(have u1 : ¬ 9223372036854775807 < W.size + 1:=by omega);(have u2 : ¬ 9223372036854775807 < W.size + 1 + tx.size:=by omega);(have z10 : wrap64 (I + 1) = ((i + 1 : Nat) : Int):=by rw [w64 (by omega) (by omega)];omega);have z11 : W.size + 1 + tx.size ≤ 0 + (i + 1) * 601:=mul_st z8 (by omega);have HN:=Zaa.mk hn;have HO:=Zaa.mk (And.intro o1 (And.intro o3 o4));clear hz hP hst o1 o2 o3 o4 hTl hTs e1 e2 hn htx hlen;go_upto_if 83 with (fail);go_wp2;go_roundg (gk - 1)
          case measure => omega
          case rel =>
            obtain ⟨o1,o3,o4⟩:=HO.out;have hn:=HN.out;have htx:=Htx.out;have hlen : t.data.toList.length = t.size:=size_data t;exact ⟨_,P + tx.size,_,_,i + 1,rfl,rfl,rfl,⟨by first | exact z10 | (have:=HZ.out;omega),by have:=HPI.out;omega,by omega,by omega,by omega,by rw [hn];exact o4,by rw [wide_at hi he,← z7,← htx];simp,by simp only [ByteArray.size_append,Gen.Za4,List.size_toArray,List.length_cons,List.length_nil];omega⟩,⟨HB5⟩⟩
      · have qI : decide (I < (R.length : Int)) = false:=decide_eq_false (by omega);(obtain rfl : i = l.length:=by omega);rw [List.take_length] at z7;have HW:=Zaa.mk z7;have HB:=Zao HB HBr;clear z1 z2 z3 z4 z5 z6 z7 z8 hRn;go_upto_if 95 with (fail);by_cases hw : W.size ≤ 600
        · have d1 : decide ((600 : Int) < (W.size : Int)) = false:=decide_eq_false (by omega);obtain ⟨l2,hs2,hk2⟩:=ZkK HSC.out HW.out hw;have HL:=Zaa.mk (Zn6 hk2);have HK:=Zaa.mk hk2;obtain ⟨k3,hk3⟩:=ZiK W;have hI3:=hk3 k3 (Nat.le_refl _);rw [hs2] at hI3;obtain ⟨R3,hRe3⟩ : ∃ R3,R3 = l2.map toS:=⟨_,rfl⟩;(have hI3 : ZaY.f k3 W = some (R3,-1):=by rw [hRe3];exact hI3);have HRl:=Zaa.mk (show R3.length = l2.length by rw [hRe3,List.length_map]);have HRe3:=Zaa.mk hRe3;clear hRe3 hk3 hs2 hk2;simp only [d1]
          go_upto_region 26 with (first
            | (go_at_call 6;refine (ZaY.calls k3 W _ _ _ (hm.below HB) hI3).mono ?_;rintro e w6 ⟨v5,rfl,hR3,hb6⟩;obtain ⟨A3,c3,rfl⟩:=Kd.Zbs hR3;have HB:=Zao HB hb6;have hC3:=(Kd.ZaP hR3).2.2;have hC:=Kd.ZbX (Kd.ZbX hC HBr) hb6))
          have e1 : ((R3.length : Int) == (R.length : Int)) = true:=beq_iff_eq.mpr (by have:=HRn.out;have:=HRl.out;have:=HL.out;omega);go_wp2;go_loopg [15] (l.length + 1) (fun kq v15 w' => ∃ (I : Int) (i : Nat),v15 = .int .i64 I ∧ Zaa (I = (i : Int) ∧ i + kq = l.length + 1 ∧ i ≤ l.length) ∧ Zaa (Below w6.heap.size w6 w'))
          case atStart => exact ⟨0,0,rfl,⟨rfl,by omega,by omega⟩,⟨Below.refl _ _⟩⟩
          case round =>
            obtain ⟨I2,i,rfl,HI,HBr2⟩:=hrel;have HBr2:=HBr2.out;obtain ⟨z1,z2,z3⟩:=HI.out;clear HI;have hRn:=HRn.out;have hRl:=HRl.out;have hLl:=HL.out;by_cases hi2 : i < l.length
            · have qI2 : decide (I2 < (R.length : Int)) = true:=decide_eq_true (by omega);(have hi3 : i < l2.length:=by omega);obtain ⟨⟨K,T,X,P⟩,he⟩ : ∃ q,l[i] = q:=⟨_,rfl⟩;obtain ⟨⟨K2,T2,X2,P2⟩,he2⟩ : ∃ q,l2[i] = q:=⟨_,rfl⟩;have hsm:=same_at HK.out i hi2 hi3;rw [he,he2] at hsm
              obtain ⟨rfl,rfl,rfl⟩ : K2 = K ∧ T2 = T ∧ X2 = X:=by
                injection hsm with h1 h2;injection h2 with h2 h3;exact ⟨h1,h2,h3⟩
              clear hsm;have hrd:=Zmp l i hi2;have hrd2:=Zmp l2 i hi3;rw [he,← HRe.out,← z1] at hrd;rw [he2,← HRe3.out,← z1] at hrd2;obtain ⟨ad,eA,x0,x1,x2,x3⟩:=ZnI hC I2 (by omega) (by omega);cases eA;obtain ⟨ad2,eA,y0,y1,y2,y3⟩:=ZnI hC3 I2 (by omega) (by omega);cases eA;rw [hrd] at x0 x1 x2;rw [hrd2] at y0 y1 y2;clear x3 y3;obtain ⟨Tb,hTb⟩ : ∃ Tb : ByteArray,Tb = ⟨T2.toArray⟩:=⟨_,rfl⟩;replace x0 : wr.cell? (ad.add (I2.toNat * 4)) = some (.int .i64 K2):=(HBr2.cell (World.block_lt_of_cell? _ _ x0)).trans x0;(replace x1 : wr.cell? ⟨(ad.add (I2.toNat * 4)).block,(ad.add (I2.toNat * 4)).off + 1,none⟩ = some (.string Tb):=by rw [hTb];exact (HBr2.cell (World.block_lt_of_cell? _ _ x1)).trans x1);replace x2 : wr.cell? ⟨(ad.add (I2.toNat * 4)).block,(ad.add (I2.toNat * 4)).off + 2,none⟩ = some (.int .u64 X2):=(HBr2.cell (World.block_lt_of_cell? _ _ x2)).trans x2;replace y0 : wr.cell? (ad2.add (I2.toNat * 4)) = some (.int .i64 K2):=(HBr2.cell (World.block_lt_of_cell? _ _ y0)).trans y0;(replace y1 : wr.cell? ⟨(ad2.add (I2.toNat * 4)).block,(ad2.add (I2.toNat * 4)).off + 1,none⟩ = some (.string Tb):=by rw [hTb];exact (HBr2.cell (World.block_lt_of_cell? _ _ y1)).trans y1);replace y2 : wr.cell? ⟨(ad2.add (I2.toNat * 4)).block,(ad2.add (I2.toNat * 4)).off + 2,none⟩ = some (.int .u64 X2):=(HBr2.cell (World.block_lt_of_cell? _ _ y2)).trans y2;have i0:=eq_true (show 0 ≤ I2 by omega);have i1:=eq_true (show I2 < (R.length : Int) by omega);have i2:=eq_true (show I2 < (R3.length : Int) by omega);(have z10 : wrap64 (I2 + 1) = ((i + 1 : Nat) : Int):=by rw [w64 (by omega) (by omega)];omega);have HZ:=Zaa.mk z1;clear hTb hRn hRl hLl hrd hrd2 z1;go_wp2
              repeat (go_quiet (fail);try go_wp2)
              go_roundg (gk - 1)
              case measure => omega
              case rel => exact ⟨_,i + 1,rfl,⟨by first | exact z10 | (have:=HZ.out;omega),by omega,by omega⟩,⟨by first | exact Zac HBr2 _ | exact HBr2⟩⟩
            · have qI2 : decide (I2 < (R.length : Int)) = false:=decide_eq_false (by omega);clear hRn hRl hLl z1 z2 z3;go_wp2;go_ret;exact ⟨rfl,Zao HB HBr2⟩
        · have d1 : decide ((600 : Int) < (W.size : Int)) = true:=decide_eq_true (by omega);obtain ⟨r,hr,hn⟩ : ∃ r,Zcn.f = some r ∧ ((r.length : Int) == 13) = true:=⟨_,rfl,rfl⟩;simp only [d1]
          go_wp2_with (first
            | (go_at_call 8;refine (Zcn.calls r _ hr).mono ?_;rintro e w6 ⟨v5,rfl,hR3,hb6⟩;obtain ⟨A3,c3,rfl⟩:=Kd.Zbs hR3;have HB:=Zao HB hb6))
          go_ret;exact ⟨rfl,by assumption⟩
theorem walk (a0 : Option Addr) (len0 cap0 : Nat) (z0 : List Int) (w : World) (hm : G.ZgJ w) (w0 : (a0 = none ∧ len0 = 0 ∧ cap0 = 0 ∧ z0 = []) ∨ ∃ x,a0 = some x ∧ len0 ≤ cap0 ∧ cap0 ≤ maxLen ∧ z0.length = cap0 ∧ (∀ i,i < z0.length → w.cell? (x.add i) = some (.int .u8 (z0.getD i 0))) ∧ ∀ n ∈ z0,(Lit.int .u8 n).wf = true) (y0 : len0 * 1 ≤ 140737488351232) :
    Calls Tryz.prog 3 #[.slice a0 len0 cap0] w fun e w' => e = .returned (.bool true) ∧ Below w.heap.size w w':=by
  obtain ⟨l0,rfl,hr0,hm0,hw0,hc0⟩:=ZcK.ofRowC w0;exact Zot a0 cap0 l0 w hm (Kd.Zd0 (d:=(0 : Int)) (h1:=fun _ => rfl) hr0) hc0 (by omega)
end Go.Proofs.YtfoekmfpcahmiabGreatDoor.LT
