import Derived.Test.YtfoekmfpcahmiabGreatDoorSQMFnTokensx2
namespace Go.Proofs.YtfoekmfpcahmiabGreatDoor.MFnTokens
open Go.RowKit YtfoekmfpcahmiabGreatDoorW.PrintWords YtfoekmfpcahmiabGreatDoorW.PrintLast YtfoekmfpcahmiabGreatDoorW.PrintMore
set_option maxHeartbeats 8000000
set_option maxRecDepth 100000
attribute [local go_sem] ZbL ZbJ ZbZ ZbY Zbw Zbv ZbK ZbI
set_option linter.unusedVariables false
set_option linter.unusedSimpArgs false
def Zbi.l0 : Nat → ByteArray → Int → Int → Option (Int)
 | 0,_,_,_ => none
 | k + 1,x0,x1,x5 => if (wrap64 (x1 + x5)) < (x0.size : Int) then (if 0 ≤ (wrap64 (x1 + x5)) then ((ZbE.f (bt x0 (wrap64 (x1 + x5)))).bind fun t171 => (if t171 = true then (Zbi.l0 k x0 x1 (wrap64 (x5 + 1))) else (if x5 > 0 then ((ZaR.f (bt x0 (wrap64 (x1 + x5)))).bind fun t172 => (if t172 = true then (Zbi.l0 k x0 x1 (wrap64 (x5 + 1))) else (some x5))) else (some x5)))) else (none)) else (some x5)
def Zbi.f (k : Nat) (a0 : ByteArray) (a1 : Int) : Option (Int):=Zbi.l0 k a0 a1 0
theorem Zbi.calls (k : Nat) (a0 : ByteArray) (a1 : Int) (r : Int) (w : World) (h : Zbi.f k a0 a1 = some r) :
  Calls Tryz.prog 20 #[.string a0,.int .i64 a1] w fun e w' => e = .returned (.int .i64 r) ∧ ZaB w w':=by
 have H : (Zbi.l0 k a0 a1 0) = some r:=h;clear h;have H':=Zaa.mk H;clear H;go_enter Tryz.func20,Tryz.ntmps20;go_wp2;go_loopg [5] k (fun kq v5 w' => ∃ (x5_1 : Int),v5 = .int .i64 x5_1 ∧ Zaa (Zbi.l0 kq a0 a1 x5_1 = some r) ∧ Zaa (kq ≤ k) ∧ ZaB w w')
 case atStart => exact ⟨(0),zE,H',⟨Nat.le_refl _⟩,zW⟩
 case round =>
  clear H';obtain ⟨x5_1,rfl,HA,HK1,⟨m1,rfl⟩⟩:=hrel
  cases gk with
  | zero => exact absurd HA.out (by simp [Zbi.l0])
  | succ k1 =>
   have H:=HA.out;clear HA;simp only [Zbi.l0] at H;by_cases c3 : (wrap64 (a1 + x5_1)) < (a0.size : Int)
   ·rw [if_pos c3] at H;have c3b0:=decide_eq_true c3;clear c3;obtain ⟨ji4,hji4⟩ : ∃ j_ : Int,(wrap64 (a1 + x5_1)) = j_:=⟨_,rfl⟩
    first | rw [hji4] at H | simp only [hji4] at H
    (try rw [hji4] at c3b0);have hji4w : (IntKind.i64.wrap (a1 + x5_1)) = ji4:=(ZaU _).trans hji4;by_cases c5 : 0 ≤ (ji4)
    ·rw [if_pos c5] at H;have c5b0:=decide_eq_true c5;clear c5;replace H:=zM H;obtain ⟨t171,A70,H⟩:=H
     try dsimp only at H
     have A7:=Zaa.mk A70;clear A70;by_cases c8 : t171 = true
     ·subst c8;have H1:=H;rw [if_pos rfl] at H1;clear H;have H:=H1;clear H1;have H':=Zaa.mk H;clear H;have p6 : 0 ≤ ((ji4) : Int):=of_decide_eq_true zA;have q6 : (ji4) < (a0.size : Int):=of_decide_eq_true zA;have hx6:=Za8 a0 (ji4);replace p6:=eq_true p6;replace q6:=eq_true q6;go_wp2_with (first | (go_at_call 19;(with_reducible refine (ZbE.calls (bt a0 (ji4)) true _ A7.out).mono ?_);rintro e w' ⟨rfl,⟨nd,rfl⟩⟩));go_roundg k1
      case measure => have:=HK1.out;omega
      case rel => exact ⟨(wrap64 (x5_1 + 1)),zE,H',⟨by have:=HK1.out;omega⟩,zW⟩
     ·replace c8:=Bool.eq_false_iff.mpr c8;subst c8;have H1:=H;rw [if_neg (show ¬ (false = true) by decide)] at H1;clear H;have H:=H1;clear H1;by_cases c9 : x5_1 > 0
      ·rw [if_pos c9] at H;have c9b0 : decide (0 < x5_1) = true:=decide_eq_true c9;clear c9;replace H:=zM H;obtain ⟨t172,A110,H⟩:=H
       try dsimp only at H
       have A11:=Zaa.mk A110;clear A110;by_cases c12 : t172 = true
       ·subst c12;have H1:=H;rw [if_pos rfl] at H1;clear H;have H:=H1;clear H1;have H':=Zaa.mk H;clear H;have p6 : 0 ≤ ((ji4) : Int):=of_decide_eq_true zA;have q6 : (ji4) < (a0.size : Int):=of_decide_eq_true zA;have hx6:=Za8 a0 (ji4);replace p6:=eq_true p6;replace q6:=eq_true q6;go_wp2_with (first | (go_at_call 19;(with_reducible refine (ZbE.calls (bt a0 (ji4)) false _ A7.out).mono ?_);rintro e w' ⟨rfl,⟨nd,rfl⟩⟩;have p10 : 0 ≤ ((ji4) : Int):=of_decide_eq_true zA;have q10 : (ji4) < (a0.size : Int):=of_decide_eq_true zA;have hx10:=Za8 a0 (ji4);replace p10:=eq_true p10;replace q10:=eq_true q10) | (go_at_call 22;(with_reducible refine (ZaR.calls (bt a0 (ji4)) true _ A11.out).mono ?_);rintro e w' ⟨rfl,⟨nd,rfl⟩⟩));go_roundg k1
        case measure => have:=HK1.out;omega
        case rel => exact ⟨(wrap64 (x5_1 + 1)),zE,H',⟨by have:=HK1.out;omega⟩,zW⟩
       ·replace c12:=Bool.eq_false_iff.mpr c12;subst c12;(have H1 : (some x5_1) = some r:=by rw [if_neg (show ¬ (false = true) by decide)] at H;exact H);clear H;have H:=H1;clear H1;obtain rfl:=Option.some.inj H;have p6 : 0 ≤ ((ji4) : Int):=of_decide_eq_true zA;have q6 : (ji4) < (a0.size : Int):=of_decide_eq_true zA;have hx6:=Za8 a0 (ji4);replace p6:=eq_true p6;replace q6:=eq_true q6;go_wp2_with (first | (go_at_call 19;(with_reducible refine (ZbE.calls (bt a0 (ji4)) false _ A7.out).mono ?_);rintro e w' ⟨rfl,⟨nd,rfl⟩⟩;have p10 : 0 ≤ ((ji4) : Int):=of_decide_eq_true zA;have q10 : (ji4) < (a0.size : Int):=of_decide_eq_true zA;have hx10:=Za8 a0 (ji4);replace p10:=eq_true p10;replace q10:=eq_true q10) | (go_at_call 22;(with_reducible refine (ZaR.calls (bt a0 (ji4)) false _ A11.out).mono ?_);rintro e w' ⟨rfl,⟨nd,rfl⟩⟩));go_ret;exact ⟨by first | rfl | (simp;done) | (simp only [← hji4] <;> (first | rfl | simp)) | (simp [*];done),zW⟩
      ·rw [if_neg c9] at H;have c9b0 : decide (0 < x5_1) = false:=decide_eq_false c9;clear c9;obtain rfl:=Option.some.inj H;have p6 : 0 ≤ ((ji4) : Int):=of_decide_eq_true zA;have q6 : (ji4) < (a0.size : Int):=of_decide_eq_true zA;have hx6:=Za8 a0 (ji4);replace p6:=eq_true p6;replace q6:=eq_true q6;go_wp2_with (first | (go_at_call 19;(with_reducible refine (ZbE.calls (bt a0 (ji4)) false _ A7.out).mono ?_);rintro e w' ⟨rfl,⟨nd,rfl⟩⟩));go_ret;exact ⟨by first | rfl | (simp;done) | (simp only [← hji4] <;> (first | rfl | simp)) | (simp [*];done),zW⟩
    ·rw [if_neg c5] at H;exact absurd H (by simp)
   ·rw [if_neg c3] at H;have c3b0:=decide_eq_false c3;clear c3;obtain rfl:=Option.some.inj H;go_wp2;go_ret;exact ⟨zE,zW⟩
def Zas.l0 : Nat → List ByteArray → ByteArray → Int → Int → Option (Int)
 | 0,_,_,_,_ => none
 | k + 1,x0,x1,x7,x8 => if x8 < x7 then (if 0 ≤ x8 then (if x8 < (x0.length : Int) then (if x1.toList = (rdOf ByteArray.empty x0 x8).toList then (some x8) else (Zas.l0 k x0 x1 x7 (wrap64 (x8 + 1)))) else (none)) else (none)) else (some (-1))
def Zas.f (k : Nat) (l0 : List ByteArray) (a1 : ByteArray) : Option (Int):=Zas.l0 k l0 a1 (l0.length : Int) 0
theorem Zas.calls (k : Nat) (A0 : Option Addr) (c0 : Nat) (l0 : List ByteArray) (a1 : ByteArray) (r : Int) (w : World) (hr0 : Kd.C Kd.string w A0 l0.length l0) (hc0 : l0.length ≤ c0) (h : Zas.f k l0 a1 = some r) :
  Calls Tryz.prog 44 #[.slice A0 l0.length c0,.string a1] w fun e w' => e = .returned (.int .i64 r) ∧ ZaB w w':=by
 have HR0:=Zaa.mk hr0;have HC0:=Zaa.mk hc0;clear hr0 hc0;have H : (Zas.l0 k l0 a1 (l0.length : Int) 0) = some r:=h;clear h;have H':=Zaa.mk H;clear H;go_enter Tryz.func44,Tryz.ntmps44;go_wp2;go_loopg [8] k (fun kq v8 w' => ∃ (x8_1 : Int),v8 = .int .i64 x8_1 ∧ Zaa (Zas.l0 kq l0 a1 (l0.length : Int) x8_1 = some r) ∧ Zaa (kq ≤ k) ∧ ZaB w w')
 case atStart => exact ⟨(0),zE,H',⟨Nat.le_refl _⟩,zW⟩
 case round =>
  clear H';obtain ⟨x8_1,rfl,HA,HK1,⟨m1,rfl⟩⟩:=hrel
  cases gk with
  | zero => exact absurd HA.out (by simp [Zas.l0])
  | succ k1 =>
   have H:=HA.out;clear HA;simp only [Zas.l0] at H;by_cases c3 : x8_1 < (l0.length : Int)
   ·rw [if_pos c3] at H;have c3b0:=decide_eq_true c3;clear c3;by_cases c4 : 0 ≤ x8_1
    ·rw [if_pos c4] at H;have c4b0:=decide_eq_true c4;clear c4;by_cases c5 : x8_1 < (l0.length : Int)
     ·rw [if_pos c5] at H;have c5b0:=decide_eq_true c5;clear c5;by_cases c6 : a1.toList = (rdOf ByteArray.empty l0 x8_1).toList
      ·rw [if_pos c6] at H;have c6b0 : (a1.toList == (rdOf ByteArray.empty l0 x8_1).toList) = true:=beq_iff_eq.mpr c6;have c6b1 : (a1.toList != (rdOf ByteArray.empty l0 x8_1).toList) = false:=bne_eq_false_iff_eq.mpr c6;clear c6;obtain rfl:=Option.some.inj H;have p173 : 0 ≤ (x8_1 : Int):=of_decide_eq_true zA;have q173 : x8_1 < (l0.length : Int):=of_decide_eq_true zA;obtain ⟨ad173,e173,hx173_0⟩:=Kd.Zcs HR0.out x8_1 p173 q173;cases e173;replace p173:=eq_true p173;replace q173:=eq_true q173;go_wp2;go_ret;exact ⟨zE,zW⟩
      ·rw [if_neg c6] at H;have c6b0 : (a1.toList == (rdOf ByteArray.empty l0 x8_1).toList) = false:=beq_eq_false_iff_ne.mpr c6;have c6b1 : (a1.toList != (rdOf ByteArray.empty l0 x8_1).toList) = true:=bne_iff_ne.mpr c6;have H':=Zaa.mk H;clear H;have p173 : 0 ≤ (x8_1 : Int):=of_decide_eq_true zA;have q173 : x8_1 < (l0.length : Int):=of_decide_eq_true zA;obtain ⟨ad173,e173,hx173_0⟩:=Kd.Zcs HR0.out x8_1 p173 q173;cases e173;replace p173:=eq_true p173;replace q173:=eq_true q173;go_wp2;go_roundg k1
       case measure => have:=HK1.out;omega
       case rel => exact ⟨(wrap64 (x8_1 + 1)),zE,H',⟨by have:=HK1.out;omega⟩,zW⟩
     ·rw [if_neg c5] at H;exact absurd H (by simp)
    ·rw [if_neg c4] at H;exact absurd H (by simp)
   ·rw [if_neg c3] at H;have c3b0:=decide_eq_false c3;clear c3;obtain rfl:=Option.some.inj H;go_wp2;go_ret;exact ⟨zE,zW⟩
def ZaH.f (k : Nat) (l0 : List ByteArray) (a1 : ByteArray) : Option (Bool):=(Zas.f k l0 a1).bind fun t174 => (some (decide (t174 ≥ 0)))
theorem ZaH.calls (k : Nat) (A0 : Option Addr) (c0 : Nat) (l0 : List ByteArray) (a1 : ByteArray) (r : Bool) (w : World) (hr0 : Kd.C Kd.string w A0 l0.length l0) (hc0 : l0.length ≤ c0) (h : ZaH.f k l0 a1 = some r) :
  Calls Tryz.prog 21 #[.slice A0 l0.length c0,.string a1] w fun e w' => e = .returned (.bool r) ∧ ZaB w w':=by
 have HR0:=Zaa.mk hr0;have HC0:=Zaa.mk hc0;clear hr0 hc0;have H : ((Zas.f k l0 a1).bind fun t174 => (some (decide (t174 ≥ 0)))) = some r:=h;clear h;replace H:=zM H;obtain ⟨t174,A30,H⟩:=H;replace H : (some (decide (t174 ≥ 0))) = some r:=H;have A3:=Zaa.mk A30;clear A30;obtain rfl:=Option.some.inj H;go_enter Tryz.func21,Tryz.ntmps21;go_wp2_with (first | ((with_reducible refine Zaf (f:=44) rfl ?_);refine Zav (some 7) rfl rfl Tryz.func44 (by kernel_rfl) rfl #[.slice A0 l0.length c0,.string a1] rfl zL ?_;(with_reducible refine (Zas.calls k _ _ l0 a1 t174 _ ?side1 ?side2 A3.out).mono ?_);(case side1 => exact zP HR0.out);(case side2 => exact HC0.out);rintro e w' ⟨rfl,⟨nd,rfl⟩⟩;refine ⟨_,rfl,?_⟩));go_ret;exact ⟨zE,zW⟩
def Zan.l0 : Nat → ByteArray → Int → Int → Option (Int)
 | 0,_,_,_ => none
 | k + 1,x0,x1,x5 => if (wrap64 (x1 + x5)) < (x0.size : Int) then (if 0 ≤ (wrap64 (x1 + x5)) then ((ZaR.f (bt x0 (wrap64 (x1 + x5)))).bind fun t175 => (if t175 = true then (Zan.l0 k x0 x1 (wrap64 (x5 + 1))) else (some x5))) else (none)) else (some x5)
def Zan.f (k : Nat) (a0 : ByteArray) (a1 : Int) : Option (Int):=Zan.l0 k a0 a1 0
theorem Zan.calls (k : Nat) (a0 : ByteArray) (a1 : Int) (r : Int) (w : World) (h : Zan.f k a0 a1 = some r) :
  Calls Tryz.prog 45 #[.string a0,.int .i64 a1] w fun e w' => e = .returned (.int .i64 r) ∧ ZaB w w':=by
 have H : (Zan.l0 k a0 a1 0) = some r:=h;clear h;have H':=Zaa.mk H;clear H;go_enter Tryz.func45,Tryz.ntmps45;go_wp2;go_loopg [5] k (fun kq v5 w' => ∃ (x5_1 : Int),v5 = .int .i64 x5_1 ∧ Zaa (Zan.l0 kq a0 a1 x5_1 = some r) ∧ Zaa (kq ≤ k) ∧ ZaB w w')
 case atStart => exact ⟨(0),zE,H',⟨Nat.le_refl _⟩,zW⟩
 case round =>
  clear H';obtain ⟨x5_1,rfl,HA,HK1,⟨m1,rfl⟩⟩:=hrel
  cases gk with
  | zero => exact absurd HA.out (by simp [Zan.l0])
  | succ k1 =>
   have H:=HA.out;clear HA;simp only [Zan.l0] at H;by_cases c3 : (wrap64 (a1 + x5_1)) < (a0.size : Int)
   ·rw [if_pos c3] at H;have c3b0:=decide_eq_true c3;clear c3;obtain ⟨ji4,hji4⟩ : ∃ j_ : Int,(wrap64 (a1 + x5_1)) = j_:=⟨_,rfl⟩
    first | rw [hji4] at H | simp only [hji4] at H
    (try rw [hji4] at c3b0);have hji4w : (IntKind.i64.wrap (a1 + x5_1)) = ji4:=(ZaU _).trans hji4;by_cases c5 : 0 ≤ (ji4)
    ·rw [if_pos c5] at H;have c5b0:=decide_eq_true c5;clear c5;replace H:=zM H;obtain ⟨t175,A70,H⟩:=H
     try dsimp only at H
     have A7:=Zaa.mk A70;clear A70;by_cases c8 : t175 = true
     ·subst c8;have H1:=H;rw [if_pos rfl] at H1;clear H;have H:=H1;clear H1;have H':=Zaa.mk H;clear H;have p6 : 0 ≤ ((ji4) : Int):=of_decide_eq_true zA;have q6 : (ji4) < (a0.size : Int):=of_decide_eq_true zA;have hx6:=Za8 a0 (ji4);replace p6:=eq_true p6;replace q6:=eq_true q6;go_wp2_with (first | (go_at_call 22;(with_reducible refine (ZaR.calls (bt a0 (ji4)) true _ A7.out).mono ?_);rintro e w' ⟨rfl,⟨nd,rfl⟩⟩));go_roundg k1
      case measure => have:=HK1.out;omega
      case rel => exact ⟨(wrap64 (x5_1 + 1)),zE,H',⟨by have:=HK1.out;omega⟩,zW⟩
     ·replace c8:=Bool.eq_false_iff.mpr c8;subst c8;(have H1 : (some x5_1) = some r:=by rw [if_neg (show ¬ (false = true) by decide)] at H;exact H);clear H;have H:=H1;clear H1;obtain rfl:=Option.some.inj H;have p6 : 0 ≤ ((ji4) : Int):=of_decide_eq_true zA;have q6 : (ji4) < (a0.size : Int):=of_decide_eq_true zA;have hx6:=Za8 a0 (ji4);replace p6:=eq_true p6;replace q6:=eq_true q6;go_wp2_with (first | (go_at_call 22;(with_reducible refine (ZaR.calls (bt a0 (ji4)) false _ A7.out).mono ?_);rintro e w' ⟨rfl,⟨nd,rfl⟩⟩));go_ret;exact ⟨by first | rfl | (simp;done) | (simp only [← hji4] <;> (first | rfl | simp)) | (simp [*];done),zW⟩
    ·rw [if_neg c5] at H;exact absurd H (by simp)
   ·rw [if_neg c3] at H;have c3b0:=decide_eq_false c3;clear c3;obtain rfl:=Option.some.inj H;go_wp2;go_ret;exact ⟨zE,zW⟩
end Go.Proofs.YtfoekmfpcahmiabGreatDoor.MFnTokens
namespace Go.Proofs.YtfoekmfpcahmiabGreatDoor.MFnTokens
open Go.RowKit YtfoekmfpcahmiabGreatDoorW.PrintWords YtfoekmfpcahmiabGreatDoorW.PrintLast YtfoekmfpcahmiabGreatDoorW.PrintMore
noncomputable section
attribute [local go_sem] ZbL ZbJ ZbZ ZbY Zbw Zbv ZbK ZbI
set_option linter.unusedVariables false
set_option linter.unusedSimpArgs false
mutual
def Zal.j0 : Nat → ByteArray → Int → Int → Bool → Option (Int)
 | 0,_,_,_,_ => none
 | k + 1,x0,x1,x5,x29 => if x29 = true then ((Zan.f k x0 (wrap64 (x5 + 1))).bind fun t178 => (Zal.j1 k x0 x1 (wrap64 ((wrap64 (x5 + 1)) + t178)))) else (Zal.j1 k x0 x1 x5)
def Zal.j1 : Nat → ByteArray → Int → Int → Option (Int)
 | 0,_,_,_ => none
 | k + 1,x0,x1,x5 => if x5 < (x0.size : Int) then (if 0 ≤ x5 then (Zal.j2 k x0 x1 x5 ((bt x0 x5) == 101)) else (none)) else (Zal.j2 k x0 x1 x5 false)
def Zal.j2 : Nat → ByteArray → Int → Int → Bool → Option (Int)
 | 0,_,_,_,_ => none
 | k + 1,x0,x1,x5,x46 => if x46 = true then (if (wrap64 (x5 + 1)) < (x0.size : Int) then (if 0 ≤ (wrap64 (x5 + 1)) then (if (bt x0 (wrap64 (x5 + 1))) = 43 then (Zal.j3 k x0 x1 x5 (wrap64 (x5 + 1)) true) else (Zal.j3 k x0 x1 x5 (wrap64 (x5 + 1)) ((bt x0 (wrap64 (x5 + 1))) == 45))) else (none)) else (Zal.j3 k x0 x1 x5 (wrap64 (x5 + 1)) false)) else (some (wrap64 (x5 - x1)))
def Zal.j3 : Nat → ByteArray → Int → Int → Int → Bool → Option (Int)
 | 0,_,_,_,_,_ => none
 | k + 1,x0,x1,x5,x6,x64 => if x64 = true then ((Zan.f k x0 (wrap64 (x6 + 1))).bind fun t179 => (if t179 > 0 then (some (wrap64 ((wrap64 ((wrap64 (x6 + 1)) + t179)) - x1))) else (some (wrap64 (x5 - x1))))) else ((Zan.f k x0 x6).bind fun t180 => (if t180 > 0 then (some (wrap64 ((wrap64 (x6 + t180)) - x1))) else (some (wrap64 (x5 - x1)))))
end
def Zal.f (k : Nat) (a0 : ByteArray) (a1 : Int) : Option (Int):=(Zan.f k a0 a1).bind fun t176 => (if (wrap64 (a1 + t176)) < (a0.size : Int) then (if 0 ≤ (wrap64 (a1 + t176)) then (if (bt a0 (wrap64 (a1 + t176))) = 46 then ((Zan.f k a0 (wrap64 ((wrap64 (a1 + t176)) + 1))).bind fun t177 => (Zal.j0 k a0 a1 (wrap64 (a1 + t176)) (decide (t177 > 0)))) else (Zal.j0 k a0 a1 (wrap64 (a1 + t176)) false)) else (none)) else (Zal.j0 k a0 a1 (wrap64 (a1 + t176)) false))
theorem Zal.calls (k : Nat) (a0 : ByteArray) (a1 : Int) (r : Int) (w : World) (h : Zal.f k a0 a1 = some r) :
  Calls Tryz.prog 23 #[.string a0,.int .i64 a1] w fun e w' => e = .returned (.int .i64 r) ∧ ZaB w w':=by
 have H : ((Zan.f k a0 a1).bind fun t176 => (if (wrap64 (a1 + t176)) < (a0.size : Int) then (if 0 ≤ (wrap64 (a1 + t176)) then (if (bt a0 (wrap64 (a1 + t176))) = 46 then ((Zan.f k a0 (wrap64 ((wrap64 (a1 + t176)) + 1))).bind fun t177 => (Zal.j0 k a0 a1 (wrap64 (a1 + t176)) (decide (t177 > 0)))) else (Zal.j0 k a0 a1 (wrap64 (a1 + t176)) false)) else (none)) else (Zal.j0 k a0 a1 (wrap64 (a1 + t176)) false))) = some r:=h;clear h;replace H:=zM H;obtain ⟨t176,A30,H⟩:=H
 try dsimp only at H
 have A3:=Zaa.mk A30;clear A30;have HC4:=Zaa.mk H;clear H;go_enter Tryz.func23,Tryz.ntmps23;go_upto_region 2 with (first | ((with_reducible refine Zaf (f:=45) rfl ?_);refine Zav (some 11) rfl rfl Tryz.func45 (by kernel_rfl) rfl #[.string a0,.int .i64 a1] rfl zL ?_;(with_reducible refine (Zan.calls k a0 a1 t176 _ A3.out).mono ?_);rintro e w' ⟨rfl,⟨nd,rfl⟩⟩;refine ⟨_,rfl,?_⟩));(try simp only [Act.put,List.setIfInBounds_toArray,List.set_cons_zero,List.set_cons_succ]);go_cut [29] (fun v29 wc => ∃ (kq : Nat) (x29_3 : Bool),v29 = .bool x29_3 ∧ Zaa (Zal.j0 kq a0 a1 (wrap64 (a1 + t176)) x29_3 = some r) ∧ Zaa (kq ≤ k) ∧ ZaB w wc)
 case first =>
  have H:=HC4.out;clear HC4;by_cases c5 : (wrap64 (a1 + t176)) < (a0.size : Int)
  ·rw [if_pos c5] at H;have c5b0:=decide_eq_true c5;clear c5;(first | rw [c5b0] | (simp only [ZaU,Zbc];rw [c5b0]) | skip);obtain ⟨ji6,hji6⟩ : ∃ j_ : Int,(wrap64 (a1 + t176)) = j_:=⟨_,rfl⟩
   first | rw [hji6] at H | simp only [hji6] at H
   (try rw [hji6] at c5b0);have hji6w : (IntKind.i64.wrap (a1 + t176)) = ji6:=(ZaU _).trans hji6;by_cases c7 : 0 ≤ (ji6)
   ·rw [if_pos c7] at H;have c7b0:=decide_eq_true c7;clear c7;by_cases c9 : (bt a0 (ji6)) = 46
    ·rw [if_pos c9] at H;have c9b0 : ((bt a0 (ji6)) == 46) = true:=beq_iff_eq.mpr c9;have c9b1 : ((bt a0 (ji6)) != 46) = false:=bne_eq_false_iff_eq.mpr c9;clear c9;replace H:=zM H;obtain ⟨t177,A100,H⟩:=H
     try dsimp only at H
     have A10:=Zaa.mk A100;clear A100;have H':=Zaa.mk H;clear H;have p8 : 0 ≤ ((ji6) : Int):=of_decide_eq_true zA;have q8 : (ji6) < (a0.size : Int):=of_decide_eq_true zA;have hx8:=Za8 a0 (ji6);replace p8:=eq_true p8;replace q8:=eq_true q8;go_wp2_with (first | (go_at_call 45;(with_reducible refine (Zan.calls k a0 (wrap64 ((ji6) + 1)) t177 _ A10.out).mono ?_);rintro e w' ⟨rfl,⟨nd,rfl⟩⟩))
     try subst hji6
     go_meet
     case rel => exact ⟨_,(decide (t177 > 0)),zE,H',⟨by first | omega | exact Nat.le_refl _⟩,zW⟩
    ·rw [if_neg c9] at H;have c9b0 : ((bt a0 (ji6)) == 46) = false:=beq_eq_false_iff_ne.mpr c9;have c9b1 : ((bt a0 (ji6)) != 46) = true:=bne_iff_ne.mpr c9;have H':=Zaa.mk H;clear H;have p8 : 0 ≤ ((ji6) : Int):=of_decide_eq_true zA;have q8 : (ji6) < (a0.size : Int):=of_decide_eq_true zA;have hx8:=Za8 a0 (ji6);replace p8:=eq_true p8;replace q8:=eq_true q8;go_wp2
     try subst hji6
     go_meet
     case rel => exact ⟨_,(false),zE,H',⟨by first | omega | exact Nat.le_refl _⟩,zW⟩
   ·rw [if_neg c7] at H;exact absurd H (by simp)
  ·rw [if_neg c5] at H;have c5b0:=decide_eq_false c5;clear c5;(first | rw [c5b0] | (simp only [ZaU,Zbc];rw [c5b0]) | skip);have H':=Zaa.mk H;clear H;go_wp2;go_meet
   case rel => exact ⟨_,(false),zE,H',⟨by first | omega | exact Nat.le_refl _⟩,zW⟩
 case rest =>
  clear HC4
  try clear hx8
  obtain ⟨kq,x29_3,rfl,HA,HJ3,⟨mc3,rfl⟩⟩:=hcut
  cases kq with
  | zero => exact absurd HA.out (by simp [Zal.j0])
  | succ kj3 =>
   have H:=HA.out;clear HA;simp only [Zal.j0] at H;have HC11:=Zaa.mk H;clear H;go_upto_if 29 with (fail);go_cut [5] (fun v5 wc => ∃ (kq : Nat) (x5_10 : Int),v5 = .int .i64 x5_10 ∧ Zaa (Zal.j1 kq a0 a1 x5_10 = some r) ∧ Zaa (kq ≤ kj3) ∧ ZaB w wc)
   case first =>
    have H:=HC11.out;clear HC11;by_cases c12 : x29_3 = true
    ·subst c12;have H1:=H;rw [if_pos rfl] at H1;clear H;have H:=H1;clear H1;replace H:=zM H;obtain ⟨t178,A130,H⟩:=H
     try dsimp only at H
     have A13:=Zaa.mk A130;clear A130;have H':=Zaa.mk H;clear H;go_wp2_with (first | ((with_reducible refine Zaf (f:=45) rfl ?_);refine Zav (some 35) rfl rfl Tryz.func45 (by kernel_rfl) rfl #[.string a0,.int .i64 (wrap64 ((wrap64 (a1 + t176)) + 1))] rfl zL ?_;(with_reducible refine (Zan.calls kj3 a0 (wrap64 ((wrap64 (a1 + t176)) + 1)) t178 _ A13.out).mono ?_);rintro e w' ⟨rfl,⟨nd,rfl⟩⟩;refine ⟨_,rfl,?_⟩));go_meet
     case rel => exact ⟨_,(wrap64 ((wrap64 ((wrap64 (a1 + t176)) + 1)) + t178)),zE,H',⟨by have:=HJ3.out;first | omega | exact Nat.le_refl _⟩,zW⟩
    ·replace c12:=Bool.eq_false_iff.mpr c12;subst c12;have H1:=H;rw [if_neg (show ¬ (false = true) by decide)] at H1;clear H;have H:=H1;clear H1;have H':=Zaa.mk H;clear H;go_wp2;go_meet
     case rel => exact ⟨_,((wrap64 (a1 + t176))),zE,H',⟨by have:=HJ3.out;first | omega | exact Nat.le_refl _⟩,zW⟩
   case rest =>
    clear HC11
    try clear hx8
    obtain ⟨kq,x5_10,rfl,HA,HJ10,⟨mc10,rfl⟩⟩:=hcut
    cases kq with
    | zero => exact absurd HA.out (by simp [Zal.j1])
    | succ kj10 =>
     have H:=HA.out;clear HA;simp only [Zal.j1] at H;have HC14:=Zaa.mk H;clear H;go_upto_region 4 with (fail);go_cut [46] (fun v46 wc => ∃ (kq : Nat) (x46_13 : Bool),v46 = .bool x46_13 ∧ Zaa (Zal.j2 kq a0 a1 x5_10 x46_13 = some r) ∧ Zaa (kq ≤ kj10) ∧ ZaB w wc)
     case first =>
      have H:=HC14.out;clear HC14;by_cases c15 : x5_10 < (a0.size : Int)
      ·rw [if_pos c15] at H;have c15b0:=decide_eq_true c15;clear c15;(first | rw [c15b0] | (simp only [ZaU,Zbc];rw [c15b0]) | skip);by_cases c16 : 0 ≤ x5_10
       ·rw [if_pos c16] at H;have c16b0:=decide_eq_true c16;clear c16;have H':=Zaa.mk H;clear H;have p17 : 0 ≤ (x5_10 : Int):=of_decide_eq_true zA;have q17 : x5_10 < (a0.size : Int):=of_decide_eq_true zA;have hx17:=Za8 a0 x5_10;replace p17:=eq_true p17;replace q17:=eq_true q17;go_wp2;go_meet
        case rel => exact ⟨_,(((bt a0 x5_10) == 101)),zE,H',⟨by have:=HJ3.out;have:=HJ10.out;first | omega | exact Nat.le_refl _⟩,zW⟩
       ·rw [if_neg c16] at H;exact absurd H (by simp)
      ·rw [if_neg c15] at H;have c15b0:=decide_eq_false c15;clear c15;(first | rw [c15b0] | (simp only [ZaU,Zbc];rw [c15b0]) | skip);have H':=Zaa.mk H;clear H;go_wp2;go_meet
       case rel => exact ⟨_,(false),zE,H',⟨by have:=HJ3.out;have:=HJ10.out;first | omega | exact Nat.le_refl _⟩,zW⟩
     case rest =>
      clear HC14
      try clear hx1
      try clear hx8
      try clear hx17
      obtain ⟨kq,x46_13,rfl,HA,HJ13,⟨mc13,rfl⟩⟩:=hcut
      cases kq with
      | zero => exact absurd HA.out (by simp [Zal.j2])
      | succ kj13 =>
       have H:=HA.out;clear HA;simp only [Zal.j2] at H;by_cases c18 : x46_13 = true
       ·subst c18;have H1:=H;rw [if_pos rfl] at H1;clear H;have H:=H1;clear H1;have HC19:=Zaa.mk H;clear H;go_upto_region 6 with (fail);go_cut [64] (fun v64 wc => ∃ (kq : Nat) (x64_18 : Bool),v64 = .bool x64_18 ∧ Zaa (Zal.j3 kq a0 a1 x5_10 (wrap64 (x5_10 + 1)) x64_18 = some r) ∧ Zaa (kq ≤ kj13) ∧ ZaB w wc)
        case first =>
         have H:=HC19.out;clear HC19;by_cases c20 : (wrap64 (x5_10 + 1)) < (a0.size : Int)
         ·rw [if_pos c20] at H;have c20b0:=decide_eq_true c20;clear c20;(first | rw [c20b0] | (simp only [ZaU,Zbc];rw [c20b0]) | skip);obtain ⟨ji21,hji21⟩ : ∃ j_ : Int,(wrap64 (x5_10 + 1)) = j_:=⟨_,rfl⟩
          first | rw [hji21] at H | simp only [hji21] at H
          (try rw [hji21] at c20b0);have hji21w : (IntKind.i64.wrap (x5_10 + 1)) = ji21:=(ZaU _).trans hji21;by_cases c22 : 0 ≤ (ji21)
          ·rw [if_pos c22] at H;have c22b0:=decide_eq_true c22;clear c22;by_cases c24 : (bt a0 (ji21)) = 43
           ·rw [if_pos c24] at H;have c24b0 : ((bt a0 (ji21)) == 43) = true:=beq_iff_eq.mpr c24;have c24b1 : ((bt a0 (ji21)) != 43) = false:=bne_eq_false_iff_eq.mpr c24;clear c24;have H':=Zaa.mk H;clear H;have p23 : 0 ≤ ((ji21) : Int):=of_decide_eq_true zA;have q23 : (ji21) < (a0.size : Int):=of_decide_eq_true zA;have hx23:=Za8 a0 (ji21);replace p23:=eq_true p23;replace q23:=eq_true q23;go_wp2
            try subst hji21
            go_meet
            case rel => exact ⟨_,(true),zE,H',⟨by have:=HJ3.out;have:=HJ10.out;have:=HJ13.out;first | omega | exact Nat.le_refl _⟩,zW⟩
           ·rw [if_neg c24] at H;have c24b0 : ((bt a0 (ji21)) == 43) = false:=beq_eq_false_iff_ne.mpr c24;have c24b1 : ((bt a0 (ji21)) != 43) = true:=bne_iff_ne.mpr c24;have H':=Zaa.mk H;clear H;have p23 : 0 ≤ ((ji21) : Int):=of_decide_eq_true zA;have q23 : (ji21) < (a0.size : Int):=of_decide_eq_true zA;have hx23:=Za8 a0 (ji21);replace p23:=eq_true p23;replace q23:=eq_true q23;have p25 : 0 ≤ ((ji21) : Int):=of_decide_eq_true zA;have q25 : (ji21) < (a0.size : Int):=of_decide_eq_true zA;have hx25:=Za8 a0 (ji21);replace p25:=eq_true p25;replace q25:=eq_true q25;go_wp2;go_meet
            case rel => exact ⟨_,(((bt a0 (ji21)) == 45)),(by first | rfl | (simp;done) | (simp only [← hji21] <;> (first | rfl | simp)) | (simp [*];done)),(by first | exact H' | (rw [hji21];exact H')),⟨by have:=HJ3.out;have:=HJ10.out;have:=HJ13.out;first | omega | exact Nat.le_refl _⟩,zW⟩
          ·rw [if_neg c22] at H;exact absurd H (by simp)
         ·rw [if_neg c20] at H;have c20b0:=decide_eq_false c20;clear c20;(first | rw [c20b0] | (simp only [ZaU,Zbc];rw [c20b0]) | skip);have H':=Zaa.mk H;clear H;go_wp2;go_meet
          case rel => exact ⟨_,(false),zE,H',⟨by have:=HJ3.out;have:=HJ10.out;have:=HJ13.out;first | omega | exact Nat.le_refl _⟩,zW⟩
        case rest =>
         clear HC19
         try clear hx1
         try clear hx2
         try clear hx8
         try clear hx17
         try clear hx23
         try clear hx25
         obtain ⟨kq,x64_18,rfl,HA,HJ18,⟨mc18,rfl⟩⟩:=hcut
         cases kq with
         | zero => exact absurd HA.out (by simp [Zal.j3])
         | succ kj18 =>
          have H:=HA.out;clear HA;simp only [Zal.j3] at H;by_cases c26 : x64_18 = true
          ·subst c26;have H1:=H;rw [if_pos rfl] at H1;clear H;have H:=H1;clear H1;replace H:=zM H;obtain ⟨t179,A270,H⟩:=H
           try dsimp only at H
           have A27:=Zaa.mk A270;clear A270;by_cases c28 : t179 > 0
           ·rw [if_pos c28] at H;have c28b0 : decide (0 < t179) = true:=decide_eq_true c28;clear c28;obtain rfl:=Option.some.inj H;go_wp2_with (first | ((with_reducible refine Zaf (f:=45) rfl ?_);refine Zav (some 69) rfl rfl Tryz.func45 (by kernel_rfl) rfl #[.string a0,.int .i64 (wrap64 ((wrap64 (x5_10 + 1)) + 1))] rfl zL ?_;(with_reducible refine (Zan.calls kj18 a0 (wrap64 ((wrap64 (x5_10 + 1)) + 1)) t179 _ A27.out).mono ?_);rintro e w' ⟨rfl,⟨nd,rfl⟩⟩;refine ⟨_,rfl,?_⟩));go_ret;exact ⟨zE,zW⟩
           ·rw [if_neg c28] at H;have c28b0 : decide (0 < t179) = false:=decide_eq_false c28;clear c28;obtain rfl:=Option.some.inj H;go_wp2_with (first | ((with_reducible refine Zaf (f:=45) rfl ?_);refine Zav (some 69) rfl rfl Tryz.func45 (by kernel_rfl) rfl #[.string a0,.int .i64 (wrap64 ((wrap64 (x5_10 + 1)) + 1))] rfl zL ?_;(with_reducible refine (Zan.calls kj18 a0 (wrap64 ((wrap64 (x5_10 + 1)) + 1)) t179 _ A27.out).mono ?_);rintro e w' ⟨rfl,⟨nd,rfl⟩⟩;refine ⟨_,rfl,?_⟩));go_ret;exact ⟨zE,zW⟩
          ·replace c26:=Bool.eq_false_iff.mpr c26;subst c26;have H1:=H;rw [if_neg (show ¬ (false = true) by decide)] at H1;clear H;have H:=H1;clear H1;replace H:=zM H;obtain ⟨t180,A290,H⟩:=H
           try dsimp only at H
           have A29:=Zaa.mk A290;clear A290;by_cases c30 : t180 > 0
           ·rw [if_pos c30] at H;have c30b0 : decide (0 < t180) = true:=decide_eq_true c30;clear c30;obtain rfl:=Option.some.inj H;go_wp2_with (first | ((with_reducible refine Zaf (f:=45) rfl ?_);refine Zav (some 69) rfl rfl Tryz.func45 (by kernel_rfl) rfl #[.string a0,.int .i64 (wrap64 (x5_10 + 1))] rfl zL ?_;(with_reducible refine (Zan.calls kj18 a0 (wrap64 (x5_10 + 1)) t180 _ A29.out).mono ?_);rintro e w' ⟨rfl,⟨nd,rfl⟩⟩;refine ⟨_,rfl,?_⟩));go_ret;exact ⟨zE,zW⟩
           ·rw [if_neg c30] at H;have c30b0 : decide (0 < t180) = false:=decide_eq_false c30;clear c30;obtain rfl:=Option.some.inj H;go_wp2_with (first | ((with_reducible refine Zaf (f:=45) rfl ?_);refine Zav (some 69) rfl rfl Tryz.func45 (by kernel_rfl) rfl #[.string a0,.int .i64 (wrap64 (x5_10 + 1))] rfl zL ?_;(with_reducible refine (Zan.calls kj18 a0 (wrap64 (x5_10 + 1)) t180 _ A29.out).mono ?_);rintro e w' ⟨rfl,⟨nd,rfl⟩⟩;refine ⟨_,rfl,?_⟩));go_ret;exact ⟨zE,zW⟩
       ·replace c18:=Bool.eq_false_iff.mpr c18;subst c18;have H1:=H;rw [if_neg (show ¬ (false = true) by decide)] at H1;clear H;have H:=H1;clear H1;obtain rfl:=Option.some.inj H;go_wp2;go_ret;exact ⟨zE,zW⟩
def Zax.f (a0 : Int) (a1 : Int) (a2 : Int) : Option (Bool):=if a0 ≥ a1 then (some (decide (a0 ≤ a2))) else (some false)
theorem Zax.calls (a0 : Int) (a1 : Int) (a2 : Int) (r : Bool) (w : World) (h : Zax.f a0 a1 a2 = some r) :
  Calls Tryz.prog 46 #[.int .i64 a0,.int .i64 a1,.int .i64 a2] w fun e w' => e = .returned (.bool r) ∧ ZaB w w':=by
 have H : (if a0 ≥ a1 then (some (decide (a0 ≤ a2))) else (some false)) = some r:=h;clear h;by_cases c4 : a0 ≥ a1
 ·rw [if_pos c4] at H;have c4b0 : decide (a1 ≤ a0) = true:=decide_eq_true c4;clear c4;obtain rfl:=Option.some.inj H;go_enter Tryz.func46,Tryz.ntmps46;go_wp2;go_ret;exact ⟨zE,zW⟩
 ·rw [if_neg c4] at H;have c4b0 : decide (a1 ≤ a0) = false:=decide_eq_false c4;clear c4;obtain rfl:=Option.some.inj H;go_enter Tryz.func46,Tryz.ntmps46;go_wp2;go_ret;exact ⟨zE,zW⟩
def strconv_Atoi.f (a0 : ByteArray) : Option (Int × Option Int):=G.strconv_Atoi a0
theorem strconv_Atoi.calls (a0 : ByteArray) (r1 : Int) (r2 : Option Int) (w : World) (h : strconv_Atoi.f a0 = some (r1,r2)) :
  Calls Tryz.prog 47 #[.string a0] w fun e w' => e = .returned (.tuple #[.int .i64 r1,errW r2]) ∧ Below w.heap.size w w':=by obtain ⟨rfl,hc_⟩:=G.Zex a0 r1 r2 w h;exact hc_
def Za7.f (a0 : ByteArray) (a1 : ByteArray) : Option (ByteArray):=G.Za7 a0 a1
theorem Za7.calls (a0 : ByteArray) (a1 : ByteArray) (r : ByteArray) (w : World) (h : Za7.f a0 a1 = some r) :
  Calls Tryz.prog 48 #[.string a0,.string a1] w fun e w' => e = .returned (.string r) ∧ Below w.heap.size w w':=G.Zdx a0 a1 r w h
def Zbo.f (a0 : ByteArray) (a1 : Int) : Option (Int):=G.Zbo a0 a1
theorem Zbo.calls (a0 : ByteArray) (a1 : Int) (r : Int) (w : World) (hm : G.ZgJ w) (h : Zbo.f a0 a1 = some r) :
  Calls Tryz.prog 49 #[.string a0,.int .i64 a1] w fun e w' => e = .returned (.int .u64 r) ∧ Below w.heap.size w w':=G.ZeM a0 a1 r w hm h
end
end Go.Proofs.YtfoekmfpcahmiabGreatDoor.MFnTokens
