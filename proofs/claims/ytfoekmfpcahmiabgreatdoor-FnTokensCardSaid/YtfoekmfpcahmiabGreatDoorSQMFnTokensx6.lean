-- by this session's own program mp.py over the kit's printer
import Derived.Test.YtfoekmfpcahmiabGreatDoorSQMFnTokensx5
namespace Go.Proofs.YtfoekmfpcahmiabGreatDoor.MFnTokens
open Go.RowKit YtfoekmfpcahmiabGreatDoorW.PrintWords YtfoekmfpcahmiabGreatDoorW.PrintLast YtfoekmfpcahmiabGreatDoorW.PrintMore
set_option maxHeartbeats 8000000
set_option maxRecDepth 100000
noncomputable section
attribute [local go_sem] ZbL ZbJ ZbZ ZbY Zbw Zbv ZbK ZbI
set_option linter.unusedVariables false
set_option linter.unusedSimpArgs false
mutual
def ZaN.l0 : Nat → ByteArray → Int → Int → Option (Int)
 | 0,_,_,_ => none
 | k + 1,x0,x1,x5 => if x5 < (x0.size : Int) then (if 0 ≤ x5 then (if (bt x0 x5) ≥ 32 then (ZaN.j1 k x0 x1 x5 (decide ((bt x0 x5) ≤ 126))) else (ZaN.j1 k x0 x1 x5 false)) else (none)) else (ZaN.j1 k x0 x1 x5 false)
def ZaN.j1 : Nat → ByteArray → Int → Int → Bool → Option (Int)
 | 0,_,_,_,_ => none
 | k + 1,x0,x1,x5,x23 => if x23 = true then (if 0 ≤ x5 then (if x5 < (x0.size : Int) then (if (bt x0 x5) = 34 then (some (wrap64 ((wrap64 (x5 + 1)) - x1))) else (ZaN.l0 k x0 x1 (wrap64 (x5 + 1)))) else (none)) else (none)) else (some 0)
end
def ZaN.f (k : Nat) (a0 : ByteArray) (a1 : Int) : Option (Int):=ZaN.l0 k a0 a1 (wrap64 (a1 + 1))
theorem ZaN.calls (k : Nat) (a0 : ByteArray) (a1 : Int) (r : Int) (w : World) (h : ZaN.f k a0 a1 = some r) :
  Calls Tryz.prog 25 #[.string a0,.int .i64 a1] w fun e w' => e = .returned (.int .i64 r) ∧ ZaB w w':=by
 have H : (ZaN.l0 k a0 a1 (wrap64 (a1 + 1))) = some r:=h;clear h;have H':=Zaa.mk H;clear H;go_enter Tryz.func25,Tryz.ntmps25;go_wp2;go_loopg [5] k (fun kq v5 w' => ∃ (x5_1 : Int),v5 = .int .i64 x5_1 ∧ Zaa (ZaN.l0 kq a0 a1 x5_1 = some r) ∧ Zaa (kq ≤ k) ∧ ZaB w w')
 case atStart => exact ⟨(wrap64 (a1 + 1)),zE,H',⟨Nat.le_refl _⟩,zW⟩
 case round =>
  clear H';obtain ⟨x5_1,rfl,HA,HK1,⟨m1,rfl⟩⟩:=hrel
  cases gk with
  | zero => exact absurd HA.out (by simp [ZaN.l0])
  | succ k1 =>
   have H:=HA.out;clear HA;simp only [ZaN.l0] at H;have HC3:=Zaa.mk H;clear H;go_upto_region 2 with (fail);go_cut [23] (fun v23 wc => ∃ (kq : Nat) (x23_2 : Bool),v23 = .bool x23_2 ∧ Zaa (ZaN.j1 kq a0 a1 x5_1 x23_2 = some r) ∧ Zaa (kq ≤ k1) ∧ ZaB w wc)
   case first =>
    have H:=HC3.out;clear HC3;by_cases c4 : x5_1 < (a0.size : Int)
    ·rw [if_pos c4] at H;have c4b0:=decide_eq_true c4;clear c4;(first | rw [c4b0] | (simp only [ZaU,Zbc];rw [c4b0]) | skip);by_cases c5 : 0 ≤ x5_1
     ·rw [if_pos c5] at H;have c5b0:=decide_eq_true c5;clear c5;by_cases c7 : (bt a0 x5_1) ≥ 32
      ·rw [if_pos c7] at H;have c7b0 : decide (32 ≤ (bt a0 x5_1)) = true:=decide_eq_true c7;clear c7;have H':=Zaa.mk H;clear H;have p6 : 0 ≤ (x5_1 : Int):=of_decide_eq_true zA;have q6 : x5_1 < (a0.size : Int):=of_decide_eq_true zA;have hx6:=Za8 a0 x5_1;replace p6:=eq_true p6;replace q6:=eq_true q6;have p8 : 0 ≤ (x5_1 : Int):=of_decide_eq_true zA;have q8 : x5_1 < (a0.size : Int):=of_decide_eq_true zA;have hx8:=Za8 a0 x5_1;replace p8:=eq_true p8;replace q8:=eq_true q8;go_wp2;go_meet
       case rel => exact ⟨_,(decide ((bt a0 x5_1) ≤ 126)),zE,H',⟨by have:=HK1.out;first | omega | exact Nat.le_refl _⟩,zW⟩
      ·rw [if_neg c7] at H;have c7b0 : decide (32 ≤ (bt a0 x5_1)) = false:=decide_eq_false c7;clear c7;have H':=Zaa.mk H;clear H;have p6 : 0 ≤ (x5_1 : Int):=of_decide_eq_true zA;have q6 : x5_1 < (a0.size : Int):=of_decide_eq_true zA;have hx6:=Za8 a0 x5_1;replace p6:=eq_true p6;replace q6:=eq_true q6;go_wp2;go_meet
       case rel => exact ⟨_,(false),zE,H',⟨by have:=HK1.out;first | omega | exact Nat.le_refl _⟩,zW⟩
     ·rw [if_neg c5] at H;exact absurd H (by simp)
    ·rw [if_neg c4] at H;have c4b0:=decide_eq_false c4;clear c4;(first | rw [c4b0] | (simp only [ZaU,Zbc];rw [c4b0]) | skip);have H':=Zaa.mk H;clear H;go_wp2;go_meet
     case rel => exact ⟨_,(false),zE,H',⟨by have:=HK1.out;first | omega | exact Nat.le_refl _⟩,zW⟩
   case rest =>
    clear HC3
    try clear hx6
    try clear hx8
    obtain ⟨kq,x23_2,rfl,HA,HJ2,⟨mc2,rfl⟩⟩:=hcut
    cases kq with
    | zero => exact absurd HA.out (by simp [ZaN.j1])
    | succ kj2 =>
     have H:=HA.out;clear HA;simp only [ZaN.j1] at H;by_cases c9 : x23_2 = true
     ·subst c9;have H1:=H;rw [if_pos rfl] at H1;clear H;have H:=H1;clear H1;by_cases c10 : 0 ≤ x5_1
      ·rw [if_pos c10] at H;have c10b0:=decide_eq_true c10;clear c10;by_cases c11 : x5_1 < (a0.size : Int)
       ·rw [if_pos c11] at H;have c11b0:=decide_eq_true c11;clear c11;by_cases c13 : (bt a0 x5_1) = 34
        ·rw [if_pos c13] at H;have c13b0 : ((bt a0 x5_1) == 34) = true:=beq_iff_eq.mpr c13;have c13b1 : ((bt a0 x5_1) != 34) = false:=bne_eq_false_iff_eq.mpr c13;clear c13;obtain rfl:=Option.some.inj H;have p12 : 0 ≤ (x5_1 : Int):=of_decide_eq_true zA;have q12 : x5_1 < (a0.size : Int):=of_decide_eq_true zA;have hx12:=Za8 a0 x5_1;replace p12:=eq_true p12;replace q12:=eq_true q12;go_wp2;go_ret;exact ⟨zE,zW⟩
        ·rw [if_neg c13] at H;have c13b0 : ((bt a0 x5_1) == 34) = false:=beq_eq_false_iff_ne.mpr c13;have c13b1 : ((bt a0 x5_1) != 34) = true:=bne_iff_ne.mpr c13;have H':=Zaa.mk H;clear H;have p12 : 0 ≤ (x5_1 : Int):=of_decide_eq_true zA;have q12 : x5_1 < (a0.size : Int):=of_decide_eq_true zA;have hx12:=Za8 a0 x5_1;replace p12:=eq_true p12;replace q12:=eq_true q12;go_wp2;go_roundg kj2
         case measure => have:=HK1.out;have:=HJ2.out;omega
         case rel => exact ⟨(wrap64 (x5_1 + 1)),zE,H',⟨by have:=HK1.out;have:=HJ2.out;omega⟩,zW⟩
       ·rw [if_neg c11] at H;exact absurd H (by simp)
      ·rw [if_neg c10] at H;exact absurd H (by simp)
     ·replace c9:=Bool.eq_false_iff.mpr c9;subst c9;(have H1 : (some 0) = some r:=by rw [if_neg (show ¬ (false = true) by decide)] at H;exact H);clear H;have H:=H1;clear H1;obtain rfl:=Option.some.inj H;go_wp2;go_ret;exact ⟨zE,zW⟩
def strings_IndexByte.f (a0 : ByteArray) (a1 : Int) : Option (Int):=G.strings_IndexByte a0 a1
theorem strings_IndexByte.calls (a0 : ByteArray) (a1 : Int) (r : Int) (w : World) (h : strings_IndexByte.f a0 a1 = some r) :
  Calls Tryz.prog 50 #[.string a0,.int .u8 a1] w fun e w' => e = .returned (.int .i64 r) ∧ ZaB w w':=G.Zdc a0 a1 r w h
def Zbf.j0 : Nat → ByteArray → Int → Bool → Option (Int)
 | 0,_,_,_ => none
 | k + 1,x0,x1,x18 => if x18 = true then (some 2) else (if 0 ≤ x1 then (if x1 < (x0.size : Int) then ((strings_IndexByte.f (⟨#[43,45,42,47,37,60,62,61,33,40,41,123,125,44,59]⟩ : ByteArray) (bt x0 x1)).bind fun t196 => (if t196 ≥ 0 then (some 1) else (some 0))) else (none)) else (none))
def Zbf.f (k : Nat) (a0 : ByteArray) (a1 : Int) : Option (Int):=if (wrap64 (a1 + 1)) < (a0.size : Int) then (if 0 ≤ a1 then (if a1 ≤ (wrap64 (a1 + 2)) then (if (wrap64 (a1 + 2)) ≤ (a0.size : Int) then ((ZaH.f k (([(⟨#[61,61]⟩ : ByteArray),(⟨#[33,61]⟩ : ByteArray),(⟨#[60,61]⟩ : ByteArray),(⟨#[62,61]⟩ : ByteArray),(⟨#[38,38]⟩ : ByteArray),(⟨#[124,124]⟩ : ByteArray)] : List ByteArray)) (a0.extract (a1 : Int).toNat ((wrap64 (a1 + 2)) : Int).toNat)).bind fun t195 => (Zbf.j0 k a0 a1 t195)) else (none)) else (none)) else (none)) else (Zbf.j0 k a0 a1 false)
theorem Zbf.calls (k : Nat) (a0 : ByteArray) (a1 : Int) (r : Int) (w : World) (h : Zbf.f k a0 a1 = some r) :
  Calls Tryz.prog 26 #[.string a0,.int .i64 a1] w fun e w' => e = .returned (.int .i64 r) ∧ Below w.heap.size w w':=by
 have HB:=Zaa.mk (Below.refl w.heap.size w);have H : (if (wrap64 (a1 + 1)) < (a0.size : Int) then (if 0 ≤ a1 then (if a1 ≤ (wrap64 (a1 + 2)) then (if (wrap64 (a1 + 2)) ≤ (a0.size : Int) then ((ZaH.f k (([(⟨#[61,61]⟩ : ByteArray),(⟨#[33,61]⟩ : ByteArray),(⟨#[60,61]⟩ : ByteArray),(⟨#[62,61]⟩ : ByteArray),(⟨#[38,38]⟩ : ByteArray),(⟨#[124,124]⟩ : ByteArray)] : List ByteArray)) (a0.extract (a1 : Int).toNat ((wrap64 (a1 + 2)) : Int).toNat)).bind fun t195 => (Zbf.j0 k a0 a1 t195)) else (none)) else (none)) else (none)) else (Zbf.j0 k a0 a1 false)) = some r:=h;clear h;have HC3:=Zaa.mk H;clear H;go_enter Tryz.func26,Tryz.ntmps26;go_upto_region 1 with (fail);go_cut [18] (fun v18 wc => ∃ (kq : Nat) (x18_2 : Bool),v18 = .bool x18_2 ∧ Zaa (Zbf.j0 kq a0 a1 x18_2 = some r) ∧ Zaa (kq ≤ k) ∧ Zaa (Below w.heap.size w wc))
 case first =>
  have H:=HC3.out;clear HC3;by_cases c4 : (wrap64 (a1 + 1)) < (a0.size : Int)
  ·rw [if_pos c4] at H;have c4b0:=decide_eq_true c4;clear c4;(first | rw [c4b0] | (simp only [ZaU,Zbc];rw [c4b0]) | skip);obtain ⟨y192,hy192⟩ : ∃ y_ : List ByteArray,y_ = (([(⟨#[61,61]⟩ : ByteArray),(⟨#[33,61]⟩ : ByteArray),(⟨#[60,61]⟩ : ByteArray),(⟨#[62,61]⟩ : ByteArray),(⟨#[38,38]⟩ : ByteArray),(⟨#[124,124]⟩ : ByteArray)] : List ByteArray)):=⟨_,rfl⟩;replace H : (if 0 ≤ a1 then (if a1 ≤ (wrap64 (a1 + 2)) then (if (wrap64 (a1 + 2)) ≤ (a0.size : Int) then ((ZaH.f k y192 (a0.extract (a1 : Int).toNat ((wrap64 (a1 + 2)) : Int).toNat)).bind fun t195 => (Zbf.j0 k a0 a1 t195)) else (none)) else (none)) else (none)) = some r:=zT hy192 H;have Ny192:=Zaa.mk hy192;clear hy192;by_cases c5 : 0 ≤ a1
   ·rw [if_pos c5] at H;have c5b0:=eq_true c5;have c5b1:=decide_eq_true c5;clear c5;by_cases c6 : a1 ≤ (wrap64 (a1 + 2))
    ·rw [if_pos c6] at H;have c6b0:=eq_true c6;have c6b1:=decide_eq_true c6;by_cases c7 : (wrap64 (a1 + 2)) ≤ (a0.size : Int)
     ·rw [if_pos c7] at H;have c7b0:=eq_true c7;have c7b1:=decide_eq_true c7;replace H:=zM H;obtain ⟨t195,A80,H⟩:=H;replace H : (Zbf.j0 k a0 a1 t195) = some r:=H;have A8:=Zaa.mk A80;clear A80;have H':=Zaa.mk H;clear H;go_wp2_with (first | ((with_reducible refine Zay (N:=11) rfl ?_);(try (refine Zcc (by rfl) ?_;dsimp only));refine Kd.Zck Kd.string _ 9 ?hg (N:=11) ?hd (xs:=([(⟨#[61,61]⟩ : ByteArray),(⟨#[33,61]⟩ : ByteArray),(⟨#[60,61]⟩ : ByteArray),(⟨#[62,61]⟩ : ByteArray),(⟨#[38,38]⟩ : ByteArray),(⟨#[124,124]⟩ : ByteArray)] : List ByteArray)) (inner:=[.string (⟨#[61,61]⟩ : ByteArray),.string (⟨#[33,61]⟩ : ByteArray),.string (⟨#[60,61]⟩ : ByteArray),.string (⟨#[62,61]⟩ : ByteArray),.string (⟨#[38,38]⟩ : ByteArray),.string (⟨#[124,124]⟩ : ByteArray)]) (ok:=fun _ => True) (okp:=fun _ => True) ?hr ?hp (fun _ hk => hk) trivial (Below.refl _ _) (Nat.le_refl _) (by simp) ?_;(case hd => rfl);(case hg => rfl);(case hr => first | (go_simp;done) | (go_simp;rfl));(case hp => exact (Reps.one (show Kd.M Kd.string _ _ _ (⟨#[61,61]⟩ : ByteArray) [.string (⟨#[61,61]⟩ : ByteArray)] from rfl) (Reps.one (show Kd.M Kd.string _ _ _ (⟨#[33,61]⟩ : ByteArray) [.string (⟨#[33,61]⟩ : ByteArray)] from rfl) (Reps.one (show Kd.M Kd.string _ _ _ (⟨#[60,61]⟩ : ByteArray) [.string (⟨#[60,61]⟩ : ByteArray)] from rfl) (Reps.one (show Kd.M Kd.string _ _ _ (⟨#[62,61]⟩ : ByteArray) [.string (⟨#[62,61]⟩ : ByteArray)] from rfl) (Reps.one (show Kd.M Kd.string _ _ _ (⟨#[38,38]⟩ : ByteArray) [.string (⟨#[38,38]⟩ : ByteArray)] from rfl) (Reps.one (show Kd.M Kd.string _ _ _ (⟨#[124,124]⟩ : ByteArray) [.string (⟨#[124,124]⟩ : ByteArray)] from rfl) (Reps.none _ _))))))));intro v193 w9 ho10 hb hg_ hnew_;clear hg_ hnew_;(first | rw [← Ny192.out] at ho10 | (simp only [Int.reduceToNat] at ho10;rw [← Ny192.out] at ho10));have n0_:=Zaa.mk (Kd.Zbk ho10 (Zaw zB));have n1_:=Zaa.mk (Zao zB hb);clear HB;have HO194:=n0_;have HB:=n1_;clear n0_ n1_;clear hb ho10;obtain ⟨Ao11,co11,eo11⟩:=Kd.Zbs HO194.out;subst eo11) | (go_at_call 21;(with_reducible refine (ZaH.calls k _ _ y192 (a0.extract (a1 : Int).toNat ((wrap64 (a1 + 2)) : Int).toNat) t195 _ ?side1 ?side2 A8.out).mono ?_);(case side1 => exact zP (Kd.ZaP HO194.out).2.2);(case side2 => exact (Kd.ZaP HO194.out).2.1);rintro e w' ⟨rfl,⟨nd,rfl⟩⟩));go_meet
      case rel => exact ⟨_,(t195),zE,H',⟨by first | omega | exact Nat.le_refl _⟩,⟨zB⟩⟩
     ·rw [if_neg c7] at H;exact absurd H (by simp)
    ·rw [if_neg c6] at H;exact absurd H (by simp)
   ·rw [if_neg c5] at H;exact absurd H (by simp)
  ·rw [if_neg c4] at H;have c4b0:=decide_eq_false c4;clear c4;(first | rw [c4b0] | (simp only [ZaU,Zbc];rw [c4b0]) | skip);have H':=Zaa.mk H;clear H;go_wp2;go_meet
   case rel => exact ⟨_,(false),zE,H',⟨by first | omega | exact Nat.le_refl _⟩,⟨zB⟩⟩
 case rest =>
  clear HC3;obtain ⟨kq,x18_2,rfl,HA,HJ2,HB⟩:=hcut
  cases kq with
  | zero => exact absurd HA.out (by simp [Zbf.j0])
  | succ kj2 =>
   have H:=HA.out;clear HA;simp only [Zbf.j0] at H;by_cases c12 : x18_2 = true
   ·subst c12;(have H1 : (some 2) = some r:=by rw [if_pos rfl] at H;exact H);clear H;have H:=H1;clear H1;obtain rfl:=Option.some.inj H;go_wp2;go_ret;exact ⟨zF,zB⟩
   ·replace c12:=Bool.eq_false_iff.mpr c12;subst c12;have H1:=H;rw [if_neg (show ¬ (false = true) by decide)] at H1;clear H;have H:=H1;clear H1;by_cases c13 : 0 ≤ a1
    ·rw [if_pos c13] at H;have c13b0:=decide_eq_true c13;clear c13;by_cases c14 : a1 < (a0.size : Int)
     ·rw [if_pos c14] at H;have c14b0:=decide_eq_true c14;clear c14;replace H:=zM H;obtain ⟨t196,A160,H⟩:=H
      try dsimp only at H
      have A16:=Zaa.mk A160;clear A160;by_cases c17 : t196 ≥ 0
      ·rw [if_pos c17] at H;have c17b0 : decide (0 ≤ t196) = true:=decide_eq_true c17;clear c17;obtain rfl:=Option.some.inj H;have p15 : 0 ≤ (a1 : Int):=of_decide_eq_true zA;have q15 : a1 < (a0.size : Int):=of_decide_eq_true zA;have hx15:=Za8 a0 a1;replace p15:=eq_true p15;replace q15:=eq_true q15;go_wp2_with (first | ((with_reducible refine Zaf (f:=50) rfl ?_);refine Zav (some 22) rfl rfl Tryz.func50 (by kernel_rfl) rfl #[.string (⟨#[43,45,42,47,37,60,62,61,33,40,41,123,125,44,59]⟩ : ByteArray),.int .u8 (bt a0 a1)] rfl zL ?_;(with_reducible refine (strings_IndexByte.calls (⟨#[43,45,42,47,37,60,62,61,33,40,41,123,125,44,59]⟩ : ByteArray) (bt a0 a1) t196 _ A16.out).mono ?_);rintro e w' ⟨rfl,⟨nd,rfl⟩⟩;refine ⟨_,rfl,?_⟩));go_ret;exact ⟨zF,zB⟩
      ·rw [if_neg c17] at H;have c17b0 : decide (0 ≤ t196) = false:=decide_eq_false c17;clear c17;obtain rfl:=Option.some.inj H;have p15 : 0 ≤ (a1 : Int):=of_decide_eq_true zA;have q15 : a1 < (a0.size : Int):=of_decide_eq_true zA;have hx15:=Za8 a0 a1;replace p15:=eq_true p15;replace q15:=eq_true q15;go_wp2_with (first | ((with_reducible refine Zaf (f:=50) rfl ?_);refine Zav (some 22) rfl rfl Tryz.func50 (by kernel_rfl) rfl #[.string (⟨#[43,45,42,47,37,60,62,61,33,40,41,123,125,44,59]⟩ : ByteArray),.int .u8 (bt a0 a1)] rfl zL ?_;(with_reducible refine (strings_IndexByte.calls (⟨#[43,45,42,47,37,60,62,61,33,40,41,123,125,44,59]⟩ : ByteArray) (bt a0 a1) t196 _ A16.out).mono ?_);rintro e w' ⟨rfl,⟨nd,rfl⟩⟩;refine ⟨_,rfl,?_⟩));go_ret;exact ⟨zF,zB⟩
     ·rw [if_neg c14] at H;exact absurd H (by simp)
    ·rw [if_neg c13] at H;exact absurd H (by simp)
def Zbn.f (k : Nat) (a0 : ByteArray) (a1 : Int) : Option (Int × ByteArray × Int × Int × Int):=if 0 ≤ a1 then (if a1 < (a0.size : Int) then ((ZbE.f (bt a0 a1)).bind fun t198 => (if t198 = true then ((Zbi.f k a0 a1).bind fun t199 => (if t199 > 12 then (some (0,(⟨#[]⟩ : ByteArray),0,0,0)) else (if a1 ≤ (wrap64 (a1 + t199)) then (if (wrap64 (a1 + t199)) ≤ (a0.size : Int) then ((Zcn.f).bind fun t201 => ((ZaH.f k t201 (a0.extract (a1 : Int).toNat ((wrap64 (a1 + t199)) : Int).toNat)).bind fun t204 => (if t204 = true then (some (5,a0.extract (a1 : Int).toNat ((wrap64 (a1 + t199)) : Int).toNat,0,a1,t199)) else (some (1,a0.extract (a1 : Int).toNat ((wrap64 (a1 + t199)) : Int).toNat,0,a1,t199))))) else (none)) else (none)))) else ((ZaR.f (bt a0 a1)).bind fun t205 => (if t205 = true then ((Zal.f k a0 a1).bind fun t206 => (if a1 ≤ (wrap64 (a1 + t206)) then (if (wrap64 (a1 + t206)) ≤ (a0.size : Int) then ((Zae.f k (a0.extract (a1 : Int).toNat ((wrap64 (a1 + t206)) : Int).toNat)).bind fun bt207 => (if bt207.2 = true then (some (2,a0.extract (a1 : Int).toNat ((wrap64 (a1 + t206)) : Int).toNat,bt207.1,a1,t206)) else (some (0,(⟨#[]⟩ : ByteArray),0,0,0)))) else (none)) else (none))) else (if (bt a0 a1) = 34 then ((ZaN.f k a0 a1).bind fun t209 => (if t209 = 0 then (some (0,(⟨#[]⟩ : ByteArray),0,0,0)) else (if 0 ≤ (wrap64 (a1 + 1)) then (if (wrap64 (a1 + 1)) ≤ (wrap64 ((wrap64 (a1 + t209)) - 1)) then (if (wrap64 ((wrap64 (a1 + t209)) - 1)) ≤ (a0.size : Int) then (some (3,a0.extract ((wrap64 (a1 + 1)) : Int).toNat ((wrap64 ((wrap64 (a1 + t209)) - 1)) : Int).toNat,0,a1,t209)) else (none)) else (none)) else (none)))) else ((Zbf.f k a0 a1).bind fun t210 => (if a1 ≤ (wrap64 (a1 + t210)) then (if (wrap64 (a1 + t210)) ≤ (a0.size : Int) then (some (4,a0.extract (a1 : Int).toNat ((wrap64 (a1 + t210)) : Int).toNat,0,a1,t210)) else (none)) else (none)))))))) else (none)) else (none)
structure Tk (w : World) (g4 g6 : Nat) (K N : Int) (T : ByteArray) (a : Int) (W : World) : Prop where
 t6 : W.heap[g6]? = some (.cells #[.int .i64 K,.string T,.int .u64 N,.int .i64 a] 30 (0,0))
 t4 : W.heap[g4]? = some (.cells #[.int .i64 0,.string ⟨#[]⟩,.int .u64 0,.int .i64 0] 30 (0,0))
 ne : g4 ≠ g6
 b4 : w.heap.size ≤ g4
 b6 : w.heap.size ≤ g6
 hb : Below w.heap.size w W
section
variable {w W W1 : World} {g4 g6 : Nat} {K N a : Int} {T : ByteArray}
theorem Tk.below (h : Tk w g4 g6 K N T a W) (hb : Below W.heap.size W W1) : Tk w g4 g6 K N T a W1:=⟨ZeU h.t6 hb,ZeU h.t4 hb,h.ne,h.b4,h.b6,ZbC h.hb h.hb.size hb⟩
theorem Tk.drewN (h : Tk w g4 g6 K N T a W) (n : Nat) : Tk w g4 g6 K N T a (W.drewN n):=h.below (Zac (Below.refl _ _) n)
theorem Tk.drew (h : Tk w g4 g6 K N T a W) : Tk w g4 g6 K N T a W.drew:=h.below (Zak (Below.refl _ _))
theorem Tk.kind (h : Tk w g4 g6 K N T a W) (v : Int) : Tk w g4 g6 v N T a (W.setCell ⟨g6,0,none⟩ (.int .i64 v)):=⟨Zds h.t6 0 _ rfl,ZjT h.t4 h.ne _,h.ne,h.b4,h.b6,h.hb.setCell h.b6 _⟩
theorem Tk.text (h : Tk w g4 g6 K N T a W) (v : ByteArray) : Tk w g4 g6 K N v a (W.setCell ⟨g6,1,none⟩ (.string v)):=⟨Zds h.t6 1 _ rfl,ZjT h.t4 h.ne _,h.ne,h.b4,h.b6,h.hb.setCell h.b6 _⟩
theorem Tk.num (h : Tk w g4 g6 K N T a W) (v : Int) : Tk w g4 g6 K v T a (W.setCell ⟨g6,2,none⟩ (.int .u64 v)):=⟨Zds h.t6 2 _ rfl,ZjT h.t4 h.ne _,h.ne,h.b4,h.b6,h.hb.setCell h.b6 _⟩
theorem Tk.cells (h : Tk w g4 g6 K N T a W) : W.cell? ⟨g6,0,none⟩ = some (.int .i64 K) ∧ W.cell? ⟨g6,1,none⟩ = some (.string T) ∧ W.cell? ⟨g6,2,none⟩ = some (.int .u64 N) ∧ W.cell? ⟨g6,3,none⟩ = some (.int .i64 a) ∧
  W.frozen? ⟨g6,0,none⟩ = false ∧ W.frozen? ⟨g6,1,none⟩ = false ∧ W.frozen? ⟨g6,2,none⟩ = false :=
 ⟨(Zbq h.t6 0).trans rfl,(Zbq h.t6 1).trans rfl,(Zbq h.t6 2).trans rfl,(Zbq h.t6 3).trans rfl,ZbF h.t6 0,ZbF h.t6 1,ZbF h.t6 2⟩
theorem Tk.ZiV (h : Tk w g4 g6 K N T a W) : W.cell? ⟨g4,0,none⟩ = some (.int .i64 0) ∧ W.cell? ⟨g4,1,none⟩ = some (.string ⟨#[]⟩) ∧ W.cell? ⟨g4,2,none⟩ = some (.int .u64 0) ∧ W.cell? ⟨g4,3,none⟩ = some (.int .i64 0) ∧
  W.frozen? ⟨g4,0,none⟩ = false ∧ W.frozen? ⟨g4,1,none⟩ = false ∧ W.frozen? ⟨g4,2,none⟩ = false ∧ W.frozen? ⟨g4,3,none⟩ = false ∧ g4 ≠ g6 ∧ g6 ≠ g4 :=
 ⟨(Zbq h.t4 0).trans rfl,(Zbq h.t4 1).trans rfl,(Zbq h.t4 2).trans rfl,(Zbq h.t4 3).trans rfl,ZbF h.t4 0,ZbF h.t4 1,ZbF h.t4 2,ZbF h.t4 3,h.ne,Ne.symm h.ne⟩
theorem Tk.out (h : Tk w g4 g6 K N T a W) : ((((W.setCell ⟨g4,0,none⟩ (.int .i64 K)).setCell ⟨g4,1,none⟩ (.string T)).setCell ⟨g4,2,none⟩ (.int .u64 N)).setCell ⟨g4,3,none⟩ (.int .i64 a)).heap[g4]? = some (.cells #[.int .i64 K,.string T,.int .u64 N,.int .i64 a] 30 (0,0)) ∧
  Below w.heap.size w ((((W.setCell ⟨g4,0,none⟩ (.int .i64 K)).setCell ⟨g4,1,none⟩ (.string T)).setCell ⟨g4,2,none⟩ (.int .u64 N)).setCell ⟨g4,3,none⟩ (.int .i64 a)) :=
 ⟨Zds (Zds (Zds (Zds h.t4 0 _ rfl) 1 _ rfl) 2 _ rfl) 3 _ rfl,(((h.hb.setCell h.b4 _).setCell h.b4 _).setCell h.b4 _).setCell h.b4 _⟩
end
structure Sk (w : World) (g4 : Nat) (W : World) : Prop where
 t4 : W.heap[g4]? = some (.cells #[.int .i64 0,.string ⟨#[]⟩,.int .u64 0,.int .i64 0] 30 (0,0))
 b4 : w.heap.size ≤ g4
 hb : Below w.heap.size w W
theorem Sk.below {w W W1 : World} {g4 : Nat} (h : Sk w g4 W) (hb : Below W.heap.size W W1) : Sk w g4 W1:=⟨ZeU h.t4 hb,h.b4,ZbC h.hb h.hb.size hb⟩
theorem Sk.drewN {w W : World} {g4 : Nat} (h : Sk w g4 W) (n : Nat) : Sk w g4 (W.drewN n):=h.below (Zac (Below.refl _ _) n)
theorem Sk.cells {w W : World} {g4 : Nat} (h : Sk w g4 W) : W.cell? ⟨g4,0,none⟩ = some (.int .i64 0) ∧ W.cell? ⟨g4,1,none⟩ = some (.string ⟨#[]⟩) ∧ W.cell? ⟨g4,2,none⟩ = some (.int .u64 0) ∧ W.cell? ⟨g4,3,none⟩ = some (.int .i64 0) ∧
  W.frozen? ⟨g4,0,none⟩ = false ∧ W.frozen? ⟨g4,1,none⟩ = false ∧ W.frozen? ⟨g4,2,none⟩ = false ∧ W.frozen? ⟨g4,3,none⟩ = false :=
 ⟨(Zbq h.t4 0).trans rfl,(Zbq h.t4 1).trans rfl,(Zbq h.t4 2).trans rfl,(Zbq h.t4 3).trans rfl,ZbF h.t4 0,ZbF h.t4 1,ZbF h.t4 2,ZbF h.t4 3⟩
theorem Sk.out {w W : World} {g4 : Nat} (h : Sk w g4 W) (K : Int) (T : ByteArray) (N a : Int) : ((((W.setCell ⟨g4,0,none⟩ (.int .i64 K)).setCell ⟨g4,1,none⟩ (.string T)).setCell ⟨g4,2,none⟩ (.int .u64 N)).setCell ⟨g4,3,none⟩ (.int .i64 a)).heap[g4]? = some (.cells #[.int .i64 K,.string T,.int .u64 N,.int .i64 a] 30 (0,0)) ∧
  Below w.heap.size w ((((W.setCell ⟨g4,0,none⟩ (.int .i64 K)).setCell ⟨g4,1,none⟩ (.string T)).setCell ⟨g4,2,none⟩ (.int .u64 N)).setCell ⟨g4,3,none⟩ (.int .i64 a)) :=
 ⟨Zds (Zds (Zds (Zds h.t4 0 _ rfl) 1 _ rfl) 2 _ rfl) 3 _ rfl,(((h.hb.setCell h.b4 _).setCell h.b4 _).setCell h.b4 _).setCell h.b4 _⟩
set_option maxHeartbeats 4000000 in
set_option maxRecDepth 100000 in
theorem Zbn.calls (k : Nat) (a0 : ByteArray) (a1 : Int) (r1 : Int) (r2 : ByteArray) (r3 : Int) (r4 : Int) (r5 : Int) (w : World) (hm : G.ZgJ w) (h : Zbn.f k a0 a1 = some (r1,r2,r3,r4,r5)) :
  Calls Tryz.prog 11 #[.string a0,.int .i64 a1] w fun e w' => e = .returned (.tuple #[.agg #[.int .i64 r1,.string r2,.int .u64 r3,.int .i64 r4],.int .i64 r5]) ∧ Below w.heap.size w w':=by
 have hu30:=Tryz.underlying30;have H:=h;clear h;unfold Zbn.f at H;by_cases p0 : 0 ≤ a1;rotate_left
 ·rw [if_neg p0] at H;cases H
 rw [if_pos p0] at H;replace p0:=eq_true p0;by_cases q0 : a1 < (a0.size : Int);rotate_left
 ·rw [if_neg q0] at H;cases H
 rw [if_pos q0] at H;replace q0:=eq_true q0;obtain ⟨t1,hL,H⟩:=Option.bind_eq_some_iff.mp H;have hx:=Za8 a0 a1;have HH:=Zaa.mk H;clear H;go_enter Tryz.func11,Tryz.ntmps11
 go_upto_block 0 with (first
  | ((with_reducible refine Zay (N:=4) rfl ?_);refine ZeT ?hg (N:=4) ?hd (cs := #[.int .i64 0,.string (⟨#[]⟩ : ByteArray),.int .u64 0,.int .i64 0]) (t:=30) ?hr ?_;(case hd => rfl);(case hg => rfl);(case hr => first | (go_simp;done) | (go_simp;rfl));intro g4 hg4 w1 hx4 hb1;have hb4 : w.heap.size ≤ g4:=Nat.le_of_eq hg4.symm;clear hg4))
 have SK : Sk w g4 w1:=⟨hx4,hb4,hb1⟩;clear hx4 hb4 hb1;go_upto_if 17 with (first | (go_at_call 19;refine (ZbE.calls (bt a0 a1) t1 _ hL).mono ?_;rintro e w' ⟨rfl,⟨nd,rfl⟩⟩;have SK:=SK.drewN nd));generalize w1.drewN nd = w2 at SK ⊢;have H:=HH.out;clear HH;cases t1;rotate_left
 ·rw [if_pos rfl] at H;obtain ⟨t2,hN,H⟩:=Option.bind_eq_some_iff.mp H;go_upto_region 4 with (first | (go_at_call 20;refine (Zbi.calls k a0 a1 t2 _ hN).mono ?_;rintro e w' ⟨rfl,⟨nd,rfl⟩⟩;have SK:=SK.drewN nd));generalize w2.drewN nd = w3 at SK ⊢;by_cases q : t2 > 12
  ·rw [if_pos q] at H;have qb : decide (12 < t2) = true:=decide_eq_true q;simp only [Option.some.injEq,Prod.mk.injEq] at H;obtain ⟨rfl,rfl,rfl,rfl,rfl⟩:=H;obtain ⟨d0,d1,d2,d3,y0,y1,y2,y3⟩:=SK.cells;go_wp2;refine bodyPost_ret (ZbW rfl _ _ g4 30 #[.int .i64 _,.string _,.int .u64 _,.int .i64 _] (0,0) _ rfl (SK.out 0 ⟨#[]⟩ 0 0).1 Tryz.underlying30 rfl (by kernel_rfl)) rfl ?_;exact ⟨rfl,(SK.out 0 ⟨#[]⟩ 0 0).2⟩
  rw [if_neg q] at H;have qb : decide (12 < t2) = false:=decide_eq_false q;by_cases e1 : a1 ≤ wrap64 (a1 + t2);rotate_left
  ·rw [if_neg e1] at H;cases H
  rw [if_pos e1] at H;replace e1:=eq_true e1;by_cases e2 : wrap64 (a1 + t2) ≤ (a0.size : Int);rotate_left
  ·rw [if_neg e2] at H;cases H
  rw [if_pos e2] at H;replace e2:=eq_true e2;obtain ⟨t3,hW,H⟩:=Option.bind_eq_some_iff.mp H;obtain ⟨t4,hI,H⟩:=Option.bind_eq_some_iff.mp H;have HH:=Zaa.mk H;clear H
  go_upto_region 7 with (first
   | ((with_reducible refine Zay (N:=8) rfl ?_);refine G.ZcD (N:=8) ?hg ?hg2 ?hd ?hd2 (x:=.tmp 33) (cs := #[.int .i64 0,.string (⟨#[]⟩ : ByteArray),.int .u64 0,.int .i64 0]) (cs' := #[.int .i64 1,.string (a0.extract (a1 : Int).toNat ((wrap64 (a1 + t2)) : Int).toNat),.int .u64 0,.int .i64 a1]) (t:=30) ?hr rfl ?hx ?hN ?hi rfl ?h1 ?_;(case hd => rfl);(case hd2 => rfl);(case hg => rfl);(case hg2 => rfl);(case hr => first | (go_simp;done) | (go_simp;rfl));(case hx => intro _;rfl);(case hN => intro _;rfl);(case hi => kernel_rfl);(case h1 => simp [Value.oneCell']);intro g6 hg6 w4 hx6 hb2;have hlt : g4 < g6:=(by rw [hg6];exact Zd9 SK.t4);clear hg6))
  have TK : Tk w g4 g6 1 0 (a0.extract (a1 : Int).toNat ((wrap64 (a1 + t2)) : Int).toNat) a1 w4:=⟨hx6,ZeU SK.t4 hb2,by omega,SK.b4,by have:=SK.b4;omega,ZbC SK.hb SK.hb.size hb2⟩;clear hx6 hb2 hlt SK;obtain ⟨c60,c61,c62,c63,z60,z61,z62⟩:=TK.cells
  go_region_held3 (fun w' => w'.cell? ⟨g6,1,none⟩ = some (.string (a0.extract (a1 : Int).toNat ((wrap64 (a1 + t2)) : Int).toNat))) (first | assumption | go_keep)
   (first
    | (go_at_call 8;refine (Zcn.calls t3 _ hW).mono ?_;rintro e w7 ⟨v0,rfl,hR,hb⟩;obtain ⟨A,c,rfl⟩:=Kd.Zbs hR;have TK:=Tk.below (Tk.drew TK) hb;obtain ⟨_,c61,_⟩:=TK.cells;have hC:=Kd.ZaP hR)
    | (go_at_call 21;refine (ZaH.calls k A c t3 _ t4 _ hC.2.2 hC.2.1 hI).mono ?_;rintro e w8 ⟨rfl,⟨nd,rfl⟩⟩;have TK:=TK.drewN nd;obtain ⟨_,c61,_⟩:=TK.cells))
  generalize w7.drewN nd = w8 at TK ⊢;clear c60 c62 c63 z60 z61 z62 hR hb hC;have H:=HH.out;clear HH;cases t4
  ·rw [if_neg (by decide)] at H;simp only [Option.some.injEq,Prod.mk.injEq] at H;obtain ⟨rfl,rfl,rfl,rfl,rfl⟩:=H;obtain ⟨c60,c61,c62,c63,z60,z61,z62⟩:=TK.cells;obtain ⟨d0,d1,d2,d3,y0,y1,y2,y3,ne1,ne2⟩:=TK.ZiV;go_wp2;refine bodyPost_ret (ZbW rfl _ _ g4 30 #[.int .i64 _,.string _,.int .u64 _,.int .i64 _] (0,0) _ rfl TK.out.1 Tryz.underlying30 rfl (by kernel_rfl)) rfl ?_;exact ⟨rfl,TK.out.2⟩
  ·rw [if_pos rfl] at H;simp only [Option.some.injEq,Prod.mk.injEq] at H;obtain ⟨rfl,rfl,rfl,rfl,rfl⟩:=H;obtain ⟨c60,c61,c62,c63,z60,z61,z62⟩:=TK.cells;go_upto_region 9 with (fail);have TK:=TK.kind 5;generalize w8.setCell ⟨g6,0,none⟩ (.int .i64 5) = w9 at TK ⊢;clear c60 c61 c62 c63 z60 z61 z62;obtain ⟨c60,c61,c62,c63,z60,z61,z62⟩:=TK.cells;obtain ⟨d0,d1,d2,d3,y0,y1,y2,y3,ne1,ne2⟩:=TK.ZiV;go_wp2;refine bodyPost_ret (ZbW rfl _ _ g4 30 #[.int .i64 _,.string _,.int .u64 _,.int .i64 _] (0,0) _ rfl TK.out.1 Tryz.underlying30 rfl (by kernel_rfl)) rfl ?_;exact ⟨rfl,TK.out.2⟩
 rw [if_neg (by decide)] at H;obtain ⟨t5,hF,H⟩:=Option.bind_eq_some_iff.mp H;go_upto_if 41 with (first | (go_at_call 22;refine (ZaR.calls (bt a0 a1) t5 _ hF).mono ?_;rintro e w' ⟨rfl,⟨nd,rfl⟩⟩;have SK:=SK.drewN nd));generalize w2.drewN nd = w3 at SK ⊢;cases t5;rotate_left
 ·rw [if_pos rfl] at H;obtain ⟨t2,hN,H⟩:=Option.bind_eq_some_iff.mp H;by_cases e1 : a1 ≤ wrap64 (a1 + t2);rotate_left
  ·rw [if_neg e1] at H;cases H
  rw [if_pos e1] at H;replace e1:=eq_true e1;by_cases e2 : wrap64 (a1 + t2) ≤ (a0.size : Int);rotate_left
  ·rw [if_neg e2] at H;cases H
  rw [if_pos e2] at H;replace e2:=eq_true e2;obtain ⟨⟨t3,t4⟩,hR,H⟩:=Option.bind_eq_some_iff.mp H;go_upto_region 12 with (first | (go_at_call 23;refine (Zal.calls k a0 a1 t2 _ hN).mono ?_;rintro e w' ⟨rfl,⟨nd,rfl⟩⟩;have SK:=SK.drewN nd));generalize w3.drewN nd = w4 at SK ⊢;go_upto_region 13 with (first | (go_at_call 24;refine (Zae.calls k _ t3 t4 _ (hm.below SK.hb) hR).mono ?_;rintro e w5 ⟨rfl,hb⟩;have SK:=SK.below hb;clear hb));cases t4
  ·rw [if_neg (by decide)] at H;simp only [Option.some.injEq,Prod.mk.injEq] at H;obtain ⟨rfl,rfl,rfl,rfl,rfl⟩:=H;obtain ⟨d0,d1,d2,d3,y0,y1,y2,y3⟩:=SK.cells;go_wp2;refine bodyPost_ret (ZbW rfl _ _ g4 30 #[.int .i64 _,.string _,.int .u64 _,.int .i64 _] (0,0) _ rfl (SK.out 0 ⟨#[]⟩ 0 0).1 Tryz.underlying30 rfl (by kernel_rfl)) rfl ?_;exact ⟨rfl,(SK.out 0 ⟨#[]⟩ 0 0).2⟩
  ·rw [if_pos rfl] at H;simp only [Option.some.injEq,Prod.mk.injEq] at H;obtain ⟨rfl,rfl,rfl,rfl,rfl⟩:=H;obtain ⟨d0,d1,d2,d3,y0,y1,y2,y3⟩:=SK.cells;go_wp2;refine bodyPost_ret (ZbW rfl _ _ g4 30 #[.int .i64 _,.string _,.int .u64 _,.int .i64 _] (0,0) _ rfl (SK.out 2 (a0.extract (a1 : Int).toNat ((wrap64 (a1 + t2)) : Int).toNat) t3 a1).1 Tryz.underlying30 rfl (by kernel_rfl)) rfl ?_;exact ⟨rfl,(SK.out 2 (a0.extract (a1 : Int).toNat ((wrap64 (a1 + t2)) : Int).toNat) t3 a1).2⟩
 rw [if_neg (by decide)] at H;by_cases e3 : bt a0 a1 = 34
 ·rw [if_pos e3] at H;have e3b : (bt a0 a1 == 34) = true:=beq_iff_eq.mpr e3;obtain ⟨t2,hN,H⟩:=Option.bind_eq_some_iff.mp H;go_upto_region 18 with (first | (go_at_call 25;refine (ZaN.calls k a0 a1 t2 _ hN).mono ?_;rintro e w' ⟨rfl,⟨nd,rfl⟩⟩;have SK:=SK.drewN nd));generalize w3.drewN nd = w4 at SK ⊢;by_cases q : t2 = 0
  ·subst q;rw [if_pos rfl] at H;simp only [Option.some.injEq,Prod.mk.injEq] at H;obtain ⟨rfl,rfl,rfl,rfl,rfl⟩:=H;obtain ⟨d0,d1,d2,d3,y0,y1,y2,y3⟩:=SK.cells;go_wp2;refine bodyPost_ret (ZbW rfl _ _ g4 30 #[.int .i64 _,.string _,.int .u64 _,.int .i64 _] (0,0) _ rfl (SK.out 0 ⟨#[]⟩ 0 0).1 Tryz.underlying30 rfl (by kernel_rfl)) rfl ?_;exact ⟨rfl,(SK.out 0 ⟨#[]⟩ 0 0).2⟩
  rw [if_neg q] at H;have qb : (t2 == 0) = false:=beq_eq_false_iff_ne.mpr q;by_cases g1 : 0 ≤ wrap64 (a1 + 1);rotate_left
  ·rw [if_neg g1] at H;cases H
  rw [if_pos g1] at H;replace g1:=eq_true g1;by_cases g2 : wrap64 (a1 + 1) ≤ wrap64 (wrap64 (a1 + t2) - 1);rotate_left
  ·rw [if_neg g2] at H;cases H
  rw [if_pos g2] at H;replace g2:=eq_true g2;by_cases g3 : wrap64 (wrap64 (a1 + t2) - 1) ≤ (a0.size : Int);rotate_left
  ·rw [if_neg g3] at H;cases H
  rw [if_pos g3] at H;replace g3:=eq_true g3;simp only [Option.some.injEq,Prod.mk.injEq] at H;obtain ⟨rfl,rfl,rfl,rfl,rfl⟩:=H;obtain ⟨d0,d1,d2,d3,y0,y1,y2,y3⟩:=SK.cells;go_wp2;refine bodyPost_ret (ZbW rfl _ _ g4 30 #[.int .i64 _,.string _,.int .u64 _,.int .i64 _] (0,0) _ rfl (SK.out 3 (a0.extract (wrap64 (a1 + 1)).toNat (wrap64 (wrap64 (a1 + t2) - 1)).toNat) 0 a1).1 Tryz.underlying30 rfl (by kernel_rfl)) rfl ?_;exact ⟨rfl,(SK.out 3 (a0.extract (wrap64 (a1 + 1)).toNat (wrap64 (wrap64 (a1 + t2) - 1)).toNat) 0 a1).2⟩
 rw [if_neg e3] at H;have e3b : (bt a0 a1 == 34) = false:=beq_eq_false_iff_ne.mpr e3;obtain ⟨t2,hN,H⟩:=Option.bind_eq_some_iff.mp H;by_cases e1 : a1 ≤ wrap64 (a1 + t2);rotate_left
 ·rw [if_neg e1] at H;cases H
 rw [if_pos e1] at H;replace e1:=eq_true e1;by_cases e2 : wrap64 (a1 + t2) ≤ (a0.size : Int);rotate_left
 ·rw [if_neg e2] at H;cases H
 rw [if_pos e2] at H;replace e2:=eq_true e2;simp only [Option.some.injEq,Prod.mk.injEq] at H;obtain ⟨rfl,rfl,rfl,rfl,rfl⟩:=H;go_upto_region 22 with (first | (go_at_call 26;refine (Zbf.calls k a0 a1 _ _ hN).mono ?_;rintro e w4 ⟨rfl,hb⟩;have SK:=SK.below hb;clear hb));obtain ⟨d0,d1,d2,d3,y0,y1,y2,y3⟩:=SK.cells;go_wp2;refine bodyPost_ret (ZbW rfl _ _ g4 30 #[.int .i64 _,.string _,.int .u64 _,.int .i64 _] (0,0) _ rfl (SK.out 4 (a0.extract (a1 : Int).toNat ((wrap64 (a1 + t2)) : Int).toNat) 0 a1).1 Tryz.underlying30 rfl (by kernel_rfl)) rfl ?_;exact ⟨rfl,(SK.out 4 (a0.extract (a1 : Int).toNat ((wrap64 (a1 + t2)) : Int).toNat) 0 a1).2⟩
end
end Go.Proofs.YtfoekmfpcahmiabGreatDoor.MFnTokens
