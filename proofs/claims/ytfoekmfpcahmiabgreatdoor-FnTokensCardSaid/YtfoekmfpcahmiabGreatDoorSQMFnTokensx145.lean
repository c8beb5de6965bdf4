import Derived.Test.YtfoekmfpcahmiabGreatDoorSQMFnTokensx13
namespace Go.Proofs.YtfoekmfpcahmiabGreatDoor.MFnTokens
open Go.RowKit YtfoekmfpcahmiabGreatDoorW.PrintWords YtfoekmfpcahmiabGreatDoorW.PrintLast YtfoekmfpcahmiabGreatDoorW.PrintMore
set_option maxHeartbeats 8000000
set_option maxRecDepth 100000
attribute [local go_sem] ZbL ZbJ ZbZ ZbY Zbw Zbv ZbK ZbI
set_option linter.unusedVariables false
set_option linter.unusedSimpArgs false
def Zbd.l0 : Nat → ByteArray → Int → Int → Option (Int)
 | 0,_,_,_ => none
 | k + 1,x0,x1,x5 => if x5 < (x0.size : Int) then (if 0 ≤ x5 then (if (bt x0 x5) = 34 then (some (wrap64 ((wrap64 (x5 + 1)) - x1))) else (if (bt x0 x5) < 32 then (some (-1)) else (if (bt x0 x5) > 126 then (some (-1)) else (Zbd.l0 k x0 x1 (wrap64 (x5 + 1)))))) else (none)) else (some (-1))
def Zbd.f (k : Nat) (a0 : ByteArray) (a1 : Int) : Option (Int):=Zbd.l0 k a0 a1 (wrap64 (a1 + 1))
theorem Zbd.calls (k : Nat) (a0 : ByteArray) (a1 : Int) (r : Int) (w : World) (h : Zbd.f k a0 a1 = some r) :
  Calls Tryz.prog 34 #[.string a0,.int .i64 a1] w fun e w' => e = .returned (.int .i64 r) ∧ ZaB w w':=by
 have H : (Zbd.l0 k a0 a1 (wrap64 (a1 + 1))) = some r:=h;clear h;have H':=Zaa.mk H;clear H;go_enter Tryz.func34,Tryz.ntmps34;go_wp2;go_loopg [5] k (fun kq v5 w' => ∃ (x5_1 : Int),v5 = .int .i64 x5_1 ∧ Zaa (Zbd.l0 kq a0 a1 x5_1 = some r) ∧ Zaa (kq ≤ k) ∧ ZaB w w')
 case atStart => exact ⟨(wrap64 (a1 + 1)),zE,H',⟨Nat.le_refl _⟩,zW⟩
 case round =>
  clear H';obtain ⟨x5_1,rfl,HA,HK1,⟨m1,rfl⟩⟩:=hrel
  cases gk with
  | zero => exact absurd HA.out (by simp [Zbd.l0])
  | succ k1 =>
   have H:=HA.out;clear HA;simp only [Zbd.l0] at H;by_cases c3 : x5_1 < (a0.size : Int)
   ·rw [if_pos c3] at H;have c3b0:=decide_eq_true c3;clear c3;by_cases c4 : 0 ≤ x5_1
    ·rw [if_pos c4] at H;have c4b0:=decide_eq_true c4;clear c4;by_cases c6 : (bt a0 x5_1) = 34
     ·rw [if_pos c6] at H;have c6b0 : ((bt a0 x5_1) == 34) = true:=beq_iff_eq.mpr c6;have c6b1 : ((bt a0 x5_1) != 34) = false:=bne_eq_false_iff_eq.mpr c6;clear c6;obtain rfl:=Option.some.inj H;have p5 : 0 ≤ (x5_1 : Int):=of_decide_eq_true zA;have q5 : x5_1 < (a0.size : Int):=of_decide_eq_true zA;have hx5:=Za8 a0 x5_1;replace p5:=eq_true p5;replace q5:=eq_true q5;go_wp2;go_ret;exact ⟨zE,zW⟩
     ·rw [if_neg c6] at H;have c6b0 : ((bt a0 x5_1) == 34) = false:=beq_eq_false_iff_ne.mpr c6;have c6b1 : ((bt a0 x5_1) != 34) = true:=bne_iff_ne.mpr c6;by_cases c8 : (bt a0 x5_1) < 32
      ·rw [if_pos c8] at H;have c8b0:=decide_eq_true c8;clear c8;obtain rfl:=Option.some.inj H;have p5 : 0 ≤ (x5_1 : Int):=of_decide_eq_true zA;have q5 : x5_1 < (a0.size : Int):=of_decide_eq_true zA;have hx5:=Za8 a0 x5_1;replace p5:=eq_true p5;replace q5:=eq_true q5;have p7 : 0 ≤ (x5_1 : Int):=of_decide_eq_true zA;have q7 : x5_1 < (a0.size : Int):=of_decide_eq_true zA;have hx7:=Za8 a0 x5_1;replace p7:=eq_true p7;replace q7:=eq_true q7;go_wp2;go_ret;exact ⟨zE,zW⟩
      ·rw [if_neg c8] at H;have c8b0:=decide_eq_false c8;clear c8;by_cases c10 : (bt a0 x5_1) > 126
       ·rw [if_pos c10] at H;have c10b0 : decide (126 < (bt a0 x5_1)) = true:=decide_eq_true c10;clear c10;obtain rfl:=Option.some.inj H;have p5 : 0 ≤ (x5_1 : Int):=of_decide_eq_true zA;have q5 : x5_1 < (a0.size : Int):=of_decide_eq_true zA;have hx5:=Za8 a0 x5_1;replace p5:=eq_true p5;replace q5:=eq_true q5;have p7 : 0 ≤ (x5_1 : Int):=of_decide_eq_true zA;have q7 : x5_1 < (a0.size : Int):=of_decide_eq_true zA;have hx7:=Za8 a0 x5_1;replace p7:=eq_true p7;replace q7:=eq_true q7;have p9 : 0 ≤ (x5_1 : Int):=of_decide_eq_true zA;have q9 : x5_1 < (a0.size : Int):=of_decide_eq_true zA;have hx9:=Za8 a0 x5_1;replace p9:=eq_true p9;replace q9:=eq_true q9;go_wp2;go_ret;exact ⟨zE,zW⟩
       ·rw [if_neg c10] at H;have c10b0 : decide (126 < (bt a0 x5_1)) = false:=decide_eq_false c10;clear c10;have H':=Zaa.mk H;clear H;have p5 : 0 ≤ (x5_1 : Int):=of_decide_eq_true zA;have q5 : x5_1 < (a0.size : Int):=of_decide_eq_true zA;have hx5:=Za8 a0 x5_1;replace p5:=eq_true p5;replace q5:=eq_true q5;have p7 : 0 ≤ (x5_1 : Int):=of_decide_eq_true zA;have q7 : x5_1 < (a0.size : Int):=of_decide_eq_true zA;have hx7:=Za8 a0 x5_1;replace p7:=eq_true p7;replace q7:=eq_true q7;have p9 : 0 ≤ (x5_1 : Int):=of_decide_eq_true zA;have q9 : x5_1 < (a0.size : Int):=of_decide_eq_true zA;have hx9:=Za8 a0 x5_1;replace p9:=eq_true p9;replace q9:=eq_true q9;go_wp2;go_roundg k1
        case measure => have:=HK1.out;omega
        case rel => exact ⟨(wrap64 (x5_1 + 1)),zE,H',⟨by have:=HK1.out;omega⟩,zW⟩
    ·rw [if_neg c4] at H;exact absurd H (by simp)
   ·rw [if_neg c3] at H;have c3b0:=decide_eq_false c3;clear c3;obtain rfl:=Option.some.inj H;go_wp2;go_ret;exact ⟨zE,zW⟩
mutual
def ZaM.j0 : Nat → ByteArray → Int → Bool → Option (Int)
 | 0,_,_,_ => none
 | k + 1,x0,x1,x22 => if x22 = true then (some 2) else (ZaM.l0 k x0 x1 (⟨#[43,45,42,47,37,60,62,61,33,40,41,123,125,44,59]⟩ : ByteArray) 0)
def ZaM.l0 : Nat → ByteArray → Int → ByteArray → Int → Option (Int)
 | 0,_,_,_,_ => none
 | k + 1,x0,x1,x6,x7 => if x7 < (x6.size : Int) then (if 0 ≤ x7 then (if 0 ≤ x1 then (if x1 < (x0.size : Int) then (if (bt x6 x7) = (bt x0 x1) then (some 1) else (ZaM.l0 k x0 x1 x6 (wrap64 (x7 + 1)))) else (none)) else (none)) else (none)) else (some (-1))
end
def ZaM.f (k : Nat) (a0 : ByteArray) (a1 : Int) : Option (Int):=if (wrap64 (a1 + 2)) ≤ (a0.size : Int) then (if 0 ≤ a1 then (if a1 ≤ (wrap64 (a1 + 2)) then ((Za0.f k (([(⟨#[61,61]⟩ : ByteArray),(⟨#[33,61]⟩ : ByteArray),(⟨#[60,61]⟩ : ByteArray),(⟨#[62,61]⟩ : ByteArray),(⟨#[38,38]⟩ : ByteArray),(⟨#[124,124]⟩ : ByteArray)] : List ByteArray)) (a0.extract (a1 : Int).toNat ((wrap64 (a1 + 2)) : Int).toNat)).bind fun t344 => (ZaM.j0 k a0 a1 t344)) else (none)) else (none)) else (ZaM.j0 k a0 a1 false)
theorem ZaM.calls (k : Nat) (a0 : ByteArray) (a1 : Int) (r : Int) (w : World) (h : ZaM.f k a0 a1 = some r) :
  Calls Tryz.prog 35 #[.string a0,.int .i64 a1] w fun e w' => e = .returned (.int .i64 r) ∧ Below w.heap.size w w':=by
 have HB:=Zaa.mk (Below.refl w.heap.size w);have H : (if (wrap64 (a1 + 2)) ≤ (a0.size : Int) then (if 0 ≤ a1 then (if a1 ≤ (wrap64 (a1 + 2)) then ((Za0.f k (([(⟨#[61,61]⟩ : ByteArray),(⟨#[33,61]⟩ : ByteArray),(⟨#[60,61]⟩ : ByteArray),(⟨#[62,61]⟩ : ByteArray),(⟨#[38,38]⟩ : ByteArray),(⟨#[124,124]⟩ : ByteArray)] : List ByteArray)) (a0.extract (a1 : Int).toNat ((wrap64 (a1 + 2)) : Int).toNat)).bind fun t344 => (ZaM.j0 k a0 a1 t344)) else (none)) else (none)) else (ZaM.j0 k a0 a1 false)) = some r:=h;clear h;obtain ⟨y341,hy341⟩ : ∃ y_ : List ByteArray,y_ = (([(⟨#[61,61]⟩ : ByteArray),(⟨#[33,61]⟩ : ByteArray),(⟨#[60,61]⟩ : ByteArray),(⟨#[62,61]⟩ : ByteArray),(⟨#[38,38]⟩ : ByteArray),(⟨#[124,124]⟩ : ByteArray)] : List ByteArray)):=⟨_,rfl⟩;replace H : (if (wrap64 (a1 + 2)) ≤ (a0.size : Int) then (if 0 ≤ a1 then (if a1 ≤ (wrap64 (a1 + 2)) then ((Za0.f k y341 (a0.extract (a1 : Int).toNat ((wrap64 (a1 + 2)) : Int).toNat)).bind fun t344 => (ZaM.j0 k a0 a1 t344)) else (none)) else (none)) else (ZaM.j0 k a0 a1 false)) = some r:=zT hy341 H;have Ny341:=Zaa.mk hy341;clear hy341;have HC3:=Zaa.mk H;clear H;go_enter Tryz.func35,Tryz.ntmps35;go_upto_region 2 with (first | ((with_reducible refine Zay (N:=8) rfl ?_);refine Kd.Zck Kd.string _ 9 ?hg (N:=8) ?hd (xs:=([(⟨#[61,61]⟩ : ByteArray),(⟨#[33,61]⟩ : ByteArray),(⟨#[60,61]⟩ : ByteArray),(⟨#[62,61]⟩ : ByteArray),(⟨#[38,38]⟩ : ByteArray),(⟨#[124,124]⟩ : ByteArray)] : List ByteArray)) (inner:=[.string (⟨#[61,61]⟩ : ByteArray),.string (⟨#[33,61]⟩ : ByteArray),.string (⟨#[60,61]⟩ : ByteArray),.string (⟨#[62,61]⟩ : ByteArray),.string (⟨#[38,38]⟩ : ByteArray),.string (⟨#[124,124]⟩ : ByteArray)]) (ok:=fun _ => True) (okp:=fun _ => True) ?hr ?hp (fun _ hk => hk) trivial (Below.refl _ _) (Nat.le_refl _) (by simp) ?_;(case hd => rfl);(case hg => rfl);(case hr => first | (go_simp;done) | (go_simp;rfl));(case hp => exact (Reps.one (show Kd.M Kd.string _ _ _ (⟨#[61,61]⟩ : ByteArray) [.string (⟨#[61,61]⟩ : ByteArray)] from rfl) (Reps.one (show Kd.M Kd.string _ _ _ (⟨#[33,61]⟩ : ByteArray) [.string (⟨#[33,61]⟩ : ByteArray)] from rfl) (Reps.one (show Kd.M Kd.string _ _ _ (⟨#[60,61]⟩ : ByteArray) [.string (⟨#[60,61]⟩ : ByteArray)] from rfl) (Reps.one (show Kd.M Kd.string _ _ _ (⟨#[62,61]⟩ : ByteArray) [.string (⟨#[62,61]⟩ : ByteArray)] from rfl) (Reps.one (show Kd.M Kd.string _ _ _ (⟨#[38,38]⟩ : ByteArray) [.string (⟨#[38,38]⟩ : ByteArray)] from rfl) (Reps.one (show Kd.M Kd.string _ _ _ (⟨#[124,124]⟩ : ByteArray) [.string (⟨#[124,124]⟩ : ByteArray)] from rfl) (Reps.none _ _))))))));intro v342 w4 ho5 hb hg_ hnew_;clear hg_ hnew_;(first | rw [← Ny341.out] at ho5 | (simp only [Int.reduceToNat] at ho5;rw [← Ny341.out] at ho5));have n0_:=Zaa.mk (Kd.Zbk ho5 (Zaw zB));have n1_:=Zaa.mk (Zao zB hb);clear HB;have HO343:=n0_;have HB:=n1_;clear n0_ n1_;clear hb ho5))
 repeat (go_quiet (first | ((with_reducible refine Zay (N:=8) rfl ?_);refine Kd.Zck Kd.string _ 9 ?hg (N:=8) ?hd (xs:=([(⟨#[61,61]⟩ : ByteArray),(⟨#[33,61]⟩ : ByteArray),(⟨#[60,61]⟩ : ByteArray),(⟨#[62,61]⟩ : ByteArray),(⟨#[38,38]⟩ : ByteArray),(⟨#[124,124]⟩ : ByteArray)] : List ByteArray)) (inner:=[.string (⟨#[61,61]⟩ : ByteArray),.string (⟨#[33,61]⟩ : ByteArray),.string (⟨#[60,61]⟩ : ByteArray),.string (⟨#[62,61]⟩ : ByteArray),.string (⟨#[38,38]⟩ : ByteArray),.string (⟨#[124,124]⟩ : ByteArray)]) (ok:=fun _ => True) (okp:=fun _ => True) ?hr ?hp (fun _ hk => hk) trivial (Below.refl _ _) (Nat.le_refl _) (by simp) ?_;(case hd => rfl);(case hg => rfl);(case hr => first | (go_simp;done) | (go_simp;rfl));(case hp => exact (Reps.one (show Kd.M Kd.string _ _ _ (⟨#[61,61]⟩ : ByteArray) [.string (⟨#[61,61]⟩ : ByteArray)] from rfl) (Reps.one (show Kd.M Kd.string _ _ _ (⟨#[33,61]⟩ : ByteArray) [.string (⟨#[33,61]⟩ : ByteArray)] from rfl) (Reps.one (show Kd.M Kd.string _ _ _ (⟨#[60,61]⟩ : ByteArray) [.string (⟨#[60,61]⟩ : ByteArray)] from rfl) (Reps.one (show Kd.M Kd.string _ _ _ (⟨#[62,61]⟩ : ByteArray) [.string (⟨#[62,61]⟩ : ByteArray)] from rfl) (Reps.one (show Kd.M Kd.string _ _ _ (⟨#[38,38]⟩ : ByteArray) [.string (⟨#[38,38]⟩ : ByteArray)] from rfl) (Reps.one (show Kd.M Kd.string _ _ _ (⟨#[124,124]⟩ : ByteArray) [.string (⟨#[124,124]⟩ : ByteArray)] from rfl) (Reps.none _ _))))))));intro v342 w4 ho5 hb hg_ hnew_;clear hg_ hnew_;(first | rw [← Ny341.out] at ho5 | (simp only [Int.reduceToNat] at ho5;rw [← Ny341.out] at ho5));have n0_:=Zaa.mk (Kd.Zbk ho5 (Zaw zB));have n1_:=Zaa.mk (Zao zB hb);clear HB;have HO343:=n0_;have HB:=n1_;clear n0_ n1_;clear hb ho5));go_upto_region 2 with (first | ((with_reducible refine Zay (N:=8) rfl ?_);refine Kd.Zck Kd.string _ 9 ?hg (N:=8) ?hd (xs:=([(⟨#[61,61]⟩ : ByteArray),(⟨#[33,61]⟩ : ByteArray),(⟨#[60,61]⟩ : ByteArray),(⟨#[62,61]⟩ : ByteArray),(⟨#[38,38]⟩ : ByteArray),(⟨#[124,124]⟩ : ByteArray)] : List ByteArray)) (inner:=[.string (⟨#[61,61]⟩ : ByteArray),.string (⟨#[33,61]⟩ : ByteArray),.string (⟨#[60,61]⟩ : ByteArray),.string (⟨#[62,61]⟩ : ByteArray),.string (⟨#[38,38]⟩ : ByteArray),.string (⟨#[124,124]⟩ : ByteArray)]) (ok:=fun _ => True) (okp:=fun _ => True) ?hr ?hp (fun _ hk => hk) trivial (Below.refl _ _) (Nat.le_refl _) (by simp) ?_;(case hd => rfl);(case hg => rfl);(case hr => first | (go_simp;done) | (go_simp;rfl));(case hp => exact (Reps.one (show Kd.M Kd.string _ _ _ (⟨#[61,61]⟩ : ByteArray) [.string (⟨#[61,61]⟩ : ByteArray)] from rfl) (Reps.one (show Kd.M Kd.string _ _ _ (⟨#[33,61]⟩ : ByteArray) [.string (⟨#[33,61]⟩ : ByteArray)] from rfl) (Reps.one (show Kd.M Kd.string _ _ _ (⟨#[60,61]⟩ : ByteArray) [.string (⟨#[60,61]⟩ : ByteArray)] from rfl) (Reps.one (show Kd.M Kd.string _ _ _ (⟨#[62,61]⟩ : ByteArray) [.string (⟨#[62,61]⟩ : ByteArray)] from rfl) (Reps.one (show Kd.M Kd.string _ _ _ (⟨#[38,38]⟩ : ByteArray) [.string (⟨#[38,38]⟩ : ByteArray)] from rfl) (Reps.one (show Kd.M Kd.string _ _ _ (⟨#[124,124]⟩ : ByteArray) [.string (⟨#[124,124]⟩ : ByteArray)] from rfl) (Reps.none _ _))))))));intro v342 w4 ho5 hb hg_ hnew_;clear hg_ hnew_;(first | rw [← Ny341.out] at ho5 | (simp only [Int.reduceToNat] at ho5;rw [← Ny341.out] at ho5));have n0_:=Zaa.mk (Kd.Zbk ho5 (Zaw zB));have n1_:=Zaa.mk (Zao zB hb);clear HB;have HO343:=n0_;have HB:=n1_;clear n0_ n1_;clear hb ho5)))
 (try simp only [Act.put,List.setIfInBounds_toArray,List.set_cons_zero,List.set_cons_succ]);go_cut [22] (fun v22 wc => ∃ (kq : Nat) (x22_2 : Bool),v22 = .bool x22_2 ∧ Zaa (ZaM.j0 kq a0 a1 x22_2 = some r) ∧ Zaa (kq ≤ k) ∧ Zaa (Below w.heap.size w wc))
 case first =>
  have H:=HC3.out;clear HC3;by_cases c6 : (wrap64 (a1 + 2)) ≤ (a0.size : Int)
  ·rw [if_pos c6] at H;have c6b0:=decide_eq_true c6;clear c6;(first | rw [c6b0] | (simp only [ZaU,Zbc];rw [c6b0]) | skip);by_cases c7 : 0 ≤ a1
   ·rw [if_pos c7] at H;have c7b0:=eq_true c7;have c7b1:=decide_eq_true c7;clear c7;by_cases c8 : a1 ≤ (wrap64 (a1 + 2))
    ·rw [if_pos c8] at H;have c8b0:=eq_true c8;have c8b1:=decide_eq_true c8;have c9b0:=eq_true (of_decide_eq_true zA : (wrap64 (a1 + 2)) ≤ (a0.size : Int));replace H:=zM H;obtain ⟨t344,A100,H⟩:=H;replace H : (ZaM.j0 k a0 a1 t344) = some r:=H;have A10:=Zaa.mk A100;clear A100;have H':=Zaa.mk H;clear H;obtain ⟨Ao11,co11,eo11⟩:=Kd.Zbs HO343.out;subst eo11;go_wp2_with (first | (go_at_call 29;(with_reducible refine (Za0.calls k _ _ y341 (a0.extract (a1 : Int).toNat ((wrap64 (a1 + 2)) : Int).toNat) t344 _ ?side1 ?side2 A10.out).mono ?_);(case side1 => exact zP (Kd.ZaP HO343.out).2.2);(case side2 => exact (Kd.ZaP HO343.out).2.1);rintro e w' ⟨rfl,⟨nd,rfl⟩⟩;(try exact zD)))
     repeat (go_quiet (first | (go_at_call 29;(with_reducible refine (Za0.calls k _ _ y341 (a0.extract (a1 : Int).toNat ((wrap64 (a1 + 2)) : Int).toNat) t344 _ ?side1 ?side2 A10.out).mono ?_);(case side1 => exact zP (Kd.ZaP HO343.out).2.2);(case side2 => exact (Kd.ZaP HO343.out).2.1);rintro e w' ⟨rfl,⟨nd,rfl⟩⟩;(try exact zD)));try go_wp2_with (first | (go_at_call 29;(with_reducible refine (Za0.calls k _ _ y341 (a0.extract (a1 : Int).toNat ((wrap64 (a1 + 2)) : Int).toNat) t344 _ ?side1 ?side2 A10.out).mono ?_);(case side1 => exact zP (Kd.ZaP HO343.out).2.2);(case side2 => exact (Kd.ZaP HO343.out).2.1);rintro e w' ⟨rfl,⟨nd,rfl⟩⟩;(try exact zD))))
     go_meet
     case rel => exact ⟨_,(t344),zE,H',⟨by first | omega | exact Nat.le_refl _⟩,⟨zB⟩⟩
    ·rw [if_neg c8] at H;exact absurd H (by simp)
   ·rw [if_neg c7] at H;exact absurd H (by simp)
  ·rw [if_neg c6] at H;have c6b0:=decide_eq_false c6;clear c6;(first | rw [c6b0] | (simp only [ZaU,Zbc];rw [c6b0]) | skip);have H':=Zaa.mk H;clear H;go_wp2
   repeat (go_quiet (fail);try go_wp2)
   go_meet
   case rel => exact ⟨_,(false),zE,H',⟨by first | omega | exact Nat.le_refl _⟩,⟨zB⟩⟩
 case rest =>
  clear HC3;obtain ⟨kq,x22_2,rfl,HA,HJ2,HB⟩:=hcut
  cases kq with
  | zero => exact absurd HA.out (by simp [ZaM.j0])
  | succ kj2 =>
   have H:=HA.out;clear HA;simp only [ZaM.j0] at H;by_cases c12 : x22_2 = true
   ·subst c12;(have H1 : (some 2) = some r:=by rw [if_pos rfl] at H;exact H);clear H;have H:=H1;clear H1;obtain rfl:=Option.some.inj H;go_wp2
    repeat (go_quiet (fail);try go_wp2)
    go_ret;exact ⟨zF,zB⟩
   ·replace c12:=Bool.eq_false_iff.mpr c12;subst c12;have H1:=H;rw [if_neg (show ¬ (false = true) by decide)] at H1;clear H;have H:=H1;clear H1;have H':=Zaa.mk H;clear H;go_wp2
    repeat (go_quiet (fail);try go_wp2)
    go_loopg [7] kj2 (fun kq v7 w' => ∃ (x7_2 : Int),v7 = .int .i64 x7_2 ∧ Zaa (ZaM.l0 kq a0 a1 (⟨#[43,45,42,47,37,60,62,61,33,40,41,123,125,44,59]⟩ : ByteArray) x7_2 = some r) ∧ Zaa (kq ≤ kj2) ∧ Zaa (Below w.heap.size w w'))
    case atStart => exact ⟨(0),zE,H',⟨Nat.le_refl _⟩,⟨zB⟩⟩
    case round =>
     clear H';obtain ⟨x7_2,rfl,HA,HK2,HB⟩:=hrel
     cases gk with
     | zero => exact absurd HA.out (by simp [ZaM.l0])
     | succ k2 =>
      have H:=HA.out;clear HA;simp only [ZaM.l0] at H;by_cases c13 : x7_2 < ((⟨#[43,45,42,47,37,60,62,61,33,40,41,123,125,44,59]⟩ : ByteArray).size : Int)
      ·rw [if_pos c13] at H;have c13b0:=decide_eq_true c13;clear c13;by_cases c14 : 0 ≤ x7_2
       ·rw [if_pos c14] at H;have c14b0:=decide_eq_true c14;clear c14;by_cases c16 : 0 ≤ a1
        ·rw [if_pos c16] at H;have c16b0:=decide_eq_true c16;clear c16;by_cases c17 : a1 < (a0.size : Int)
         ·rw [if_pos c17] at H;have c17b0:=decide_eq_true c17;clear c17;by_cases c19 : (bt (⟨#[43,45,42,47,37,60,62,61,33,40,41,123,125,44,59]⟩ : ByteArray) x7_2) = (bt a0 a1)
          ·rw [if_pos c19] at H;have c19b0 : ((bt (⟨#[43,45,42,47,37,60,62,61,33,40,41,123,125,44,59]⟩ : ByteArray) x7_2) == (bt a0 a1)) = true:=beq_iff_eq.mpr c19;have c19b1 : ((bt (⟨#[43,45,42,47,37,60,62,61,33,40,41,123,125,44,59]⟩ : ByteArray) x7_2) != (bt a0 a1)) = false:=bne_eq_false_iff_eq.mpr c19;clear c19;obtain rfl:=Option.some.inj H;have p15 : 0 ≤ (x7_2 : Int):=of_decide_eq_true zA;have q15 : x7_2 < (15 : Int):=of_decide_eq_true zA;have hx15:=Za8 (⟨#[43,45,42,47,37,60,62,61,33,40,41,123,125,44,59]⟩ : ByteArray) x7_2;replace p15:=eq_true p15;replace q15:=eq_true q15;have p18 : 0 ≤ (a1 : Int):=of_decide_eq_true zA;have q18 : a1 < (a0.size : Int):=of_decide_eq_true zA;have hx18:=Za8 a0 a1;replace p18:=eq_true p18;replace q18:=eq_true q18;go_wp2
           repeat (go_quiet (fail);try go_wp2)
           go_ret;exact ⟨zF,zB⟩
          ·rw [if_neg c19] at H;have c19b0 : ((bt (⟨#[43,45,42,47,37,60,62,61,33,40,41,123,125,44,59]⟩ : ByteArray) x7_2) == (bt a0 a1)) = false:=beq_eq_false_iff_ne.mpr c19;have c19b1 : ((bt (⟨#[43,45,42,47,37,60,62,61,33,40,41,123,125,44,59]⟩ : ByteArray) x7_2) != (bt a0 a1)) = true:=bne_iff_ne.mpr c19;have H':=Zaa.mk H;clear H;have p15 : 0 ≤ (x7_2 : Int):=of_decide_eq_true zA;have q15 : x7_2 < (15 : Int):=of_decide_eq_true zA;have hx15:=Za8 (⟨#[43,45,42,47,37,60,62,61,33,40,41,123,125,44,59]⟩ : ByteArray) x7_2;replace p15:=eq_true p15;replace q15:=eq_true q15;have p18 : 0 ≤ (a1 : Int):=of_decide_eq_true zA;have q18 : a1 < (a0.size : Int):=of_decide_eq_true zA;have hx18:=Za8 a0 a1;replace p18:=eq_true p18;replace q18:=eq_true q18;go_wp2
           repeat (go_quiet (fail);try go_wp2)
           go_roundg k2
           case measure => have:=HJ2.out;have:=HK2.out;omega
           case rel => exact ⟨(wrap64 (x7_2 + 1)),zE,H',⟨by have:=HJ2.out;have:=HK2.out;omega⟩,⟨zB⟩⟩
         ·rw [if_neg c17] at H;exact absurd H (by simp)
        ·rw [if_neg c16] at H;exact absurd H (by simp)
       ·rw [if_neg c14] at H;exact absurd H (by simp)
      ·rw [if_neg c13] at H;have c13b0:=decide_eq_false c13;have c13z0 : decide (x7_2 < (15 : Int)) = false:=c13b0;clear c13;obtain rfl:=Option.some.inj H;go_wp2
       repeat (go_quiet (fail);try go_wp2)
       go_ret;exact ⟨zF,zB⟩
end Go.Proofs.YtfoekmfpcahmiabGreatDoor.MFnTokens
namespace Go.Proofs.YtfoekmfpcahmiabGreatDoor.MFnTokens
open Go.RowKit YtfoekmfpcahmiabGreatDoorW.PrintWords YtfoekmfpcahmiabGreatDoorW.PrintLast YtfoekmfpcahmiabGreatDoorW.PrintMore
attribute [local go_sem] ZbL ZbJ ZbZ ZbY Zbw Zbv ZbK ZbI
set_option linter.unusedVariables false
set_option linter.unusedSimpArgs false
def Zbj.f (k : Nat) (a0 : ByteArray) (a1 : Int) : Option (Int × ByteArray × Int × Int × Int):=if 0 ≤ a1 then (if a1 < (a0.size : Int) then ((Zbt.f (bt a0 a1)).bind fun t347 => (if t347 = true then ((Zbg.f k a0 a1).bind fun t348 => (if a1 ≤ (wrap64 (a1 + t348)) then (if (wrap64 (a1 + t348)) ≤ (a0.size : Int) then ((ZcZ.f).bind fun t349 => ((Za0.f k t349 (a0.extract (a1 : Int).toNat ((wrap64 (a1 + t348)) : Int).toNat)).bind fun t352 => (if t352 = true then (if t348 > 12 then (some (5,a0.extract (a1 : Int).toNat ((wrap64 (a1 + t348)) : Int).toNat,0,a1,(-1))) else (some (5,a0.extract (a1 : Int).toNat ((wrap64 (a1 + t348)) : Int).toNat,0,a1,t348))) else (if t348 > 12 then (some (1,a0.extract (a1 : Int).toNat ((wrap64 (a1 + t348)) : Int).toNat,0,a1,(-1))) else (some (1,a0.extract (a1 : Int).toNat ((wrap64 (a1 + t348)) : Int).toNat,0,a1,t348)))))) else (none)) else (none))) else ((Za1.f (bt a0 a1)).bind fun t353 => (if t353 = true then ((Zah.f k a0 a1).bind fun t354 => (if a1 ≤ (wrap64 (a1 + t354)) then (if (wrap64 (a1 + t354)) ≤ (a0.size : Int) then ((Zad.f k (a0.extract (a1 : Int).toNat ((wrap64 (a1 + t354)) : Int).toNat)).bind fun bt355 => (if bt355.2 = true then (some (2,a0.extract (a1 : Int).toNat ((wrap64 (a1 + t354)) : Int).toNat,bt355.1,a1,t354)) else (some (2,a0.extract (a1 : Int).toNat ((wrap64 (a1 + t354)) : Int).toNat,bt355.1,a1,(-1))))) else (none)) else (none))) else (if (bt a0 a1) = 34 then ((Zbd.f k a0 a1).bind fun t357 => (if t357 > 0 then (if 0 ≤ (wrap64 (a1 + 1)) then (if (wrap64 (a1 + 1)) ≤ (wrap64 ((wrap64 (a1 + t357)) - 1)) then (if (wrap64 ((wrap64 (a1 + t357)) - 1)) ≤ (a0.size : Int) then (some (3,a0.extract ((wrap64 (a1 + 1)) : Int).toNat ((wrap64 ((wrap64 (a1 + t357)) - 1)) : Int).toNat,0,a1,t357)) else (none)) else (none)) else (none)) else (some (3,(⟨#[]⟩ : ByteArray),0,a1,t357)))) else ((ZaM.f k a0 a1).bind fun t358 => (if t358 > 0 then (if a1 ≤ (wrap64 (a1 + t358)) then (if (wrap64 (a1 + t358)) ≤ (a0.size : Int) then (some (4,a0.extract (a1 : Int).toNat ((wrap64 (a1 + t358)) : Int).toNat,0,a1,t358)) else (none)) else (none)) else (some (4,(⟨#[]⟩ : ByteArray),0,a1,t358))))))))) else (none)) else (none)
set_option maxHeartbeats 4000000 in
set_option maxRecDepth 100000 in
theorem Zbj.calls (k : Nat) (a0 : ByteArray) (a1 : Int) (r1 : Int) (r2 : ByteArray) (r3 : Int) (r4 : Int) (r5 : Int) (w : World) (h : Zbj.f k a0 a1 = some (r1,r2,r3,r4,r5)) :
  Calls Tryz.prog 12 #[.string a0,.int .i64 a1] w fun e w' => e = .returned (.tuple #[.agg #[.int .i64 r1,.string r2,.int .u64 r3,.int .i64 r4],.int .i64 r5]) ∧ Below w.heap.size w w':=by
 have hu30:=Tryz.underlying30;have H:=h;clear h;unfold Zbj.f at H;by_cases p0 : 0 ≤ a1;rotate_left
 ·rw [if_neg p0] at H;cases H
 rw [if_pos p0] at H;by_cases q0 : a1 < (a0.size : Int);rotate_left
 ·rw [if_neg q0] at H;cases H
 rw [if_pos q0] at H;obtain ⟨t1,hL,H⟩:=Option.bind_eq_some_iff.mp H;have hx:=Za8 a0 a1;have HH:=Zaa.mk H;have P0:=Zaa.mk p0;have Q0:=Zaa.mk q0;replace p0:=eq_true p0;replace q0:=eq_true q0;clear H;go_enter Tryz.func12,Tryz.ntmps12
 go_upto_block 0 with (first
  | ((with_reducible refine Zay (N:=4) rfl ?_);refine ZeT ?hg (N:=4) ?hd (cs := #[.int .i64 0,.string (⟨#[]⟩ : ByteArray),.int .u64 0,.int .i64 0]) (t:=30) ?hr ?_;(case hd => rfl);(case hg => rfl);(case hr => first | (go_simp;done) | (go_simp;rfl));intro g4 hg4 w1 hx4 hb1;have hb4 : w.heap.size ≤ g4:=Nat.le_of_eq hg4.symm;clear hg4)
  | ((with_reducible refine Zay (N:=6) rfl ?_);refine G.ZcD (N:=6) ?hg ?hg2 ?hd ?hd2 (x:=.tmp 11) (cs := #[.int .i64 0,.string (⟨#[]⟩ : ByteArray),.int .u64 0,.int .i64 0]) (cs' := #[.int .i64 0,.string (⟨#[]⟩ : ByteArray),.int .u64 0,.int .i64 a1]) (t:=30) ?hr rfl ?hx ?hN ?hi rfl ?h1 ?_;(case hd => rfl);(case hd2 => rfl);(case hg => rfl);(case hg2 => rfl);(case hr => first | (go_simp;done) | (go_simp;rfl));(case hx => intro _;rfl);(case hN => intro _;rfl);(case hi => kernel_rfl);(case h1 => simp [Value.oneCell']);intro g6 hg6 w2 hx6 hb2;have hlt : g4 < g6:=(by rw [hg6];exact Zd9 hx4);clear hg6))
 have TK : Tk w g4 g6 0 0 ⟨#[]⟩ a1 w2:=⟨hx6,ZeU hx4 hb2,by omega,hb4,by omega,ZbC hb1 hb1.size hb2⟩;clear hx6 hx4 hb1 hb2 hlt hb4;go_cut [7] (fun v7 wc => v7 = .int .i64 r5 ∧ Zaa (Tk w g4 g6 r1 r3 r2 r4 wc))
 case first =>
  go_upto_if 25 with (first | (go_at_call 27;refine (Zbt.calls (bt a0 a1) t1 _ hL).mono ?_;rintro e w' ⟨rfl,⟨nd,rfl⟩⟩));have TK:=TK.drewN nd;generalize w2.drewN nd = w3 at TK ⊢;have H:=HH.out;clear HH;cases t1;rotate_left
  ·rw [if_pos rfl] at H;obtain ⟨t2,hN,H⟩:=Option.bind_eq_some_iff.mp H;by_cases e1 : a1 ≤ wrap64 (a1 + t2);rotate_left
   ·rw [if_neg e1] at H;cases H
   rw [if_pos e1] at H;by_cases e2 : wrap64 (a1 + t2) ≤ (a0.size : Int);rotate_left
   ·rw [if_neg e2] at H;cases H
   rw [if_pos e2] at H;obtain ⟨t3,hW,H⟩:=Option.bind_eq_some_iff.mp H;obtain ⟨t4,hI,H⟩:=Option.bind_eq_some_iff.mp H;obtain ⟨K4,hK4⟩ : ∃ K4 : Int,(if t4 = true then (5 : Int) else 1) = K4:=⟨_,rfl⟩
   have H5 : (if t2 > 12 then some (K4,(a0.extract (a1 : Int).toNat ((wrap64 (a1 + t2)) : Int).toNat),(0 : Int),a1,(-1 : Int)) else some (K4,(a0.extract (a1 : Int).toNat ((wrap64 (a1 + t2)) : Int).toNat),(0 : Int),a1,t2)) = some (r1,r2,r3,r4,r5):=by
    rw [← hK4];cases t4
    ·rw [if_neg (by decide)] at H;exact H
    ·rw [if_pos rfl] at H;exact H
   have HH:=Zaa.mk H5;have HK:=Zaa.mk hK4;clear H H5 hK4;have e1b:=eq_true e1;have e2b:=eq_true e2;go_upto_region 9 with (first | (go_at_call 28;refine (Zbg.calls k a0 a1 t2 _ hN).mono ?_;rintro e w' ⟨rfl,⟨nd,rfl⟩⟩));have TK:=TK.drewN nd;generalize w3.drewN nd = w4 at TK ⊢;obtain ⟨c60,c61,c62,c63,z60,z61,z62⟩:=TK.cells;go_upto_region 10 with (fail);have TK:=TK.kind 1;generalize w4.setCell ⟨g6,0,none⟩ (.int .i64 1) = w5 at TK ⊢;clear c60 c61 c62 c63 z60 z61 z62;obtain ⟨c60,c61,c62,c63,z60,z61,z62⟩:=TK.cells;go_upto_region 11 with (fail);have TK:=TK.text (a0.extract (a1 : Int).toNat ((wrap64 (a1 + t2)) : Int).toNat);generalize w5.setCell ⟨g6,1,none⟩ (.string (a0.extract (a1 : Int).toNat ((wrap64 (a1 + t2)) : Int).toNat)) = w6 at TK ⊢;clear c60 c61 c62 c63 z60 z61 z62;obtain ⟨c60,c61,c62,c63,z60,z61,z62⟩:=TK.cells
   go_region_held3 (fun w' => w'.cell? ⟨g6,1,none⟩ = some (.string (a0.extract (a1 : Int).toNat ((wrap64 (a1 + t2)) : Int).toNat))) (first | assumption | go_keep)
    (first
     | (go_at_call 30;refine (ZcZ.calls t3 _ hW).mono ?_;rintro e w7 ⟨v0,rfl,hR,hb⟩;obtain ⟨A,c,rfl⟩:=Kd.Zbs hR;have TK:=Tk.below (Tk.drew TK) hb;obtain ⟨_,c61,_⟩:=TK.cells;have hC:=Kd.ZaP hR)
     | (go_at_call 29;refine (Za0.calls k A c t3 _ t4 _ hC.2.2 hC.2.1 hI).mono ?_;rintro e w8 ⟨rfl,⟨nd,rfl⟩⟩;have TK:=TK.drewN nd;obtain ⟨_,c61,_⟩:=TK.cells))
   generalize w7.drewN nd = w8 at TK ⊢;clear c60 c62 c63 z60 z61 z62 hR hb hC;go_upto_if 44 with (fail);go_cut [7] (fun v7 wc => v7 = .int .i64 t2 ∧ Zaa (Tk w g4 g6 K4 0 (a0.extract (a1 : Int).toNat ((wrap64 (a1 + t2)) : Int).toNat) a1 wc))
   case first =>
    cases t4
    ·obtain rfl : (1 : Int) = K4:=HK.out;go_wp2;go_meet
     case rel => exact ⟨rfl,⟨TK⟩⟩
    ·obtain ⟨c60,c61,c62,c63,z60,z61,z62⟩:=TK.cells;go_wp2;go_meet
     case rel => exact ⟨rfl,⟨(show (5 : Int) = K4 from HK.out) ▸ TK.kind 5⟩⟩
   case rest =>
    obtain ⟨rfl,HTK⟩:=hcut;have TK:=HTK.out;clear HTK;have H:=HH.out;clear HH;by_cases q : 12 < t2
    ·rw [if_pos q] at H;have qb : decide (12 < t2) = true:=decide_eq_true q;simp only [Option.some.injEq,Prod.mk.injEq] at H;obtain ⟨rfl,rfl,rfl,rfl,rfl⟩:=H;obtain ⟨c60,c61,c62,c63,z60,z61,z62⟩:=TK.cells;obtain ⟨d0,d1,d2,d3,y0,y1,y2,y3,ne1,ne2⟩:=TK.ZiV;go_wp2;refine bodyPost_ret (ZbW rfl _ _ g4 30 #[.int .i64 _,.string _,.int .u64 _,.int .i64 _] (0,0) _ rfl TK.out.1 Tryz.underlying30 rfl (by kernel_rfl)) rfl ?_;exact ⟨rfl,TK.out.2⟩
    ·rw [if_neg q] at H;have qb : decide (12 < t2) = false:=decide_eq_false q;simp only [Option.some.injEq,Prod.mk.injEq] at H;obtain ⟨rfl,rfl,rfl,rfl,rfl⟩:=H;go_wp2;go_meet
     case rel => exact ⟨rfl,⟨TK⟩⟩
  ·rw [if_neg (by decide)] at H;obtain ⟨t5,hF,H⟩:=Option.bind_eq_some_iff.mp H;have HH:=Zaa.mk H;clear H;go_upto_if 49 with (first | (go_at_call 31;refine (Za1.calls (bt a0 a1) t5 _ hF).mono ?_;rintro e w' ⟨rfl,⟨nd,rfl⟩⟩));have TK:=TK.drewN nd;generalize w3.drewN nd = w4 at TK ⊢;have H:=HH.out;clear HH;cases t5;rotate_left
   ·rw [if_pos rfl] at H;obtain ⟨t2,hN,H⟩:=Option.bind_eq_some_iff.mp H;by_cases e1 : a1 ≤ wrap64 (a1 + t2);rotate_left
    ·rw [if_neg e1] at H;cases H
    rw [if_pos e1] at H;by_cases e2 : wrap64 (a1 + t2) ≤ (a0.size : Int);rotate_left
    ·rw [if_neg e2] at H;cases H
    rw [if_pos e2] at H;obtain ⟨⟨t3,t4⟩,hR,H⟩:=Option.bind_eq_some_iff.mp H;have HH:=Zaa.mk H;clear H;have e1b:=eq_true e1;have e2b:=eq_true e2;go_upto_region 17 with (first | (go_at_call 32;refine (Zah.calls k a0 a1 t2 _ hN).mono ?_;rintro e w' ⟨rfl,⟨nd,rfl⟩⟩));have TK:=TK.drewN nd;generalize w4.drewN nd = w5 at TK ⊢;obtain ⟨c60,c61,c62,c63,z60,z61,z62⟩:=TK.cells;go_upto_region 18 with (fail);have TK:=TK.kind 2;generalize w5.setCell ⟨g6,0,none⟩ (.int .i64 2) = w6 at TK ⊢;clear c60 c61 c62 c63 z60 z61 z62;obtain ⟨c60,c61,c62,c63,z60,z61,z62⟩:=TK.cells;go_upto_region 19 with (fail);have TK:=TK.text (a0.extract (a1 : Int).toNat ((wrap64 (a1 + t2)) : Int).toNat);generalize w6.setCell ⟨g6,1,none⟩ (.string (a0.extract (a1 : Int).toNat ((wrap64 (a1 + t2)) : Int).toNat)) = w7 at TK ⊢;clear c60 c61 c62 c63 z60 z61 z62;obtain ⟨c60,c61,c62,c63,z60,z61,z62⟩:=TK.cells;go_upto_region 20 with (first | (go_at_call 33;refine (Zad.calls k _ t3 t4 _ hR).mono ?_;rintro e w8 ⟨rfl,hb⟩;have TK:=TK.below hb));clear c60 c61 c62 c63 z60 z61 z62 hb;obtain ⟨c60,c61,c62,c63,z60,z61,z62⟩:=TK.cells;go_upto_region 21 with (fail);have TK:=TK.num t3;generalize w8.setCell ⟨g6,2,none⟩ (.int .u64 t3) = w9 at TK ⊢;clear c60 c61 c62 c63 z60 z61 z62;have H:=HH.out;clear HH;cases t4
    ·rw [if_neg (by decide)] at H;simp only [Option.some.injEq,Prod.mk.injEq] at H;obtain ⟨rfl,rfl,rfl,rfl,rfl⟩:=H;obtain ⟨c60,c61,c62,c63,z60,z61,z62⟩:=TK.cells;obtain ⟨d0,d1,d2,d3,y0,y1,y2,y3,ne1,ne2⟩:=TK.ZiV;go_wp2;refine bodyPost_ret (ZbW rfl _ _ g4 30 #[.int .i64 _,.string _,.int .u64 _,.int .i64 _] (0,0) _ rfl TK.out.1 Tryz.underlying30 rfl (by kernel_rfl)) rfl ?_;exact ⟨rfl,TK.out.2⟩
    ·rw [if_pos rfl] at H;simp only [Option.some.injEq,Prod.mk.injEq] at H;obtain ⟨rfl,rfl,rfl,rfl,rfl⟩:=H;go_wp2;go_meet
     case rel => exact ⟨rfl,⟨TK⟩⟩
   ·rw [if_neg (by decide)] at H;by_cases e3 : bt a0 a1 = 34
    ·rw [if_pos e3] at H;have e3b : (bt a0 a1 == 34) = true:=beq_iff_eq.mpr e3;obtain ⟨t2,hN,H⟩:=Option.bind_eq_some_iff.mp H;have HH:=Zaa.mk H;clear H;go_upto_region 25 with (first | (go_at_call 34;refine (Zbd.calls k a0 a1 t2 _ hN).mono ?_;rintro e w' ⟨rfl,⟨nd,rfl⟩⟩));have TK:=TK.drewN nd;generalize w4.drewN nd = w5 at TK ⊢;obtain ⟨c60,c61,c62,c63,z60,z61,z62⟩:=TK.cells;go_upto_region 26 with (fail);have TK:=TK.kind 3;generalize w5.setCell ⟨g6,0,none⟩ (.int .i64 3) = w6 at TK ⊢;clear c60 c61 c62 c63 z60 z61 z62;have H:=HH.out;clear HH;by_cases q : 0 < t2
     ·rw [if_pos q] at H;have qb : decide (0 < t2) = true:=decide_eq_true q;by_cases g1 : 0 ≤ wrap64 (a1 + 1);rotate_left
      ·rw [if_neg g1] at H;cases H
      rw [if_pos g1] at H;by_cases g2 : wrap64 (a1 + 1) ≤ wrap64 (wrap64 (a1 + t2) - 1);rotate_left
      ·rw [if_neg g2] at H;cases H
      rw [if_pos g2] at H;by_cases g3 : wrap64 (wrap64 (a1 + t2) - 1) ≤ (a0.size : Int);rotate_left
      ·rw [if_neg g3] at H;cases H
      rw [if_pos g3] at H;simp only [Option.some.injEq,Prod.mk.injEq] at H;obtain ⟨rfl,rfl,rfl,rfl,rfl⟩:=H;have g1b:=eq_true g1;have g2b:=eq_true g2;have g3b:=eq_true g3;obtain ⟨c60,c61,c62,c63,z60,z61,z62⟩:=TK.cells;go_wp2;go_meet
      case rel => exact ⟨rfl,⟨TK.text _⟩⟩
     ·rw [if_neg q] at H;have qb : decide (0 < t2) = false:=decide_eq_false q;simp only [Option.some.injEq,Prod.mk.injEq] at H;obtain ⟨rfl,rfl,rfl,rfl,rfl⟩:=H;go_wp2;go_meet
      case rel => exact ⟨rfl,⟨TK⟩⟩
    ·rw [if_neg e3] at H;have e3b : (bt a0 a1 == 34) = false:=beq_eq_false_iff_ne.mpr e3;obtain ⟨t2,hN,H⟩:=Option.bind_eq_some_iff.mp H;have HH:=Zaa.mk H;clear H;go_upto_region 4 with (first | (go_at_call 35;refine (ZaM.calls k a0 a1 t2 _ hN).mono ?_;rintro e w5 ⟨rfl,hb⟩;have TK:=TK.below hb));clear hb;obtain ⟨c60,c61,c62,c63,z60,z61,z62⟩:=TK.cells;go_upto_region 5 with (fail);have TK:=TK.kind 4;generalize w5.setCell ⟨g6,0,none⟩ (.int .i64 4) = w6 at TK ⊢;clear c60 c61 c62 c63 z60 z61 z62;have H:=HH.out;clear HH;by_cases q : 0 < t2
     ·rw [if_pos q] at H;have qb : decide (0 < t2) = true:=decide_eq_true q;by_cases e1 : a1 ≤ wrap64 (a1 + t2);rotate_left
      ·rw [if_neg e1] at H;cases H
      rw [if_pos e1] at H;by_cases e2 : wrap64 (a1 + t2) ≤ (a0.size : Int);rotate_left
      ·rw [if_neg e2] at H;cases H
      rw [if_pos e2] at H;simp only [Option.some.injEq,Prod.mk.injEq] at H;obtain ⟨rfl,rfl,rfl,rfl,rfl⟩:=H;have e1b:=eq_true e1;have e2b:=eq_true e2;obtain ⟨c60,c61,c62,c63,z60,z61,z62⟩:=TK.cells;go_wp2;go_meet
      case rel => exact ⟨rfl,⟨TK.text _⟩⟩
     ·rw [if_neg q] at H;have qb : decide (0 < t2) = false:=decide_eq_false q;simp only [Option.some.injEq,Prod.mk.injEq] at H;obtain ⟨rfl,rfl,rfl,rfl,rfl⟩:=H;go_wp2;go_meet
      case rel => exact ⟨rfl,⟨TK⟩⟩
 case rest =>
  obtain ⟨rfl,HTK⟩:=hcut;have TK:=HTK.out;clear HTK;obtain ⟨c60,c61,c62,c63,z60,z61,z62⟩:=TK.cells;obtain ⟨d0,d1,d2,d3,y0,y1,y2,y3,ne1,ne2⟩:=TK.ZiV;go_wp2;refine bodyPost_ret (ZbW rfl _ _ g4 30 #[.int .i64 _,.string _,.int .u64 _,.int .i64 _] (0,0) _ rfl TK.out.1 Tryz.underlying30 rfl (by kernel_rfl)) rfl ?_;exact ⟨rfl,TK.out.2⟩
end Go.Proofs.YtfoekmfpcahmiabGreatDoor.MFnTokens
