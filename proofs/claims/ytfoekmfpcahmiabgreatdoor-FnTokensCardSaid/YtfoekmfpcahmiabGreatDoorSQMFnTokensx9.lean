-- by this session's own program mp.py over the kit's printer
import Derived.Test.YtfoekmfpcahmiabGreatDoorSQMFnTokensx8
namespace Go.Proofs.YtfoekmfpcahmiabGreatDoor.MFnTokens
open Go.RowKit YtfoekmfpcahmiabGreatDoorW.PrintWords YtfoekmfpcahmiabGreatDoorW.PrintLast YtfoekmfpcahmiabGreatDoorW.PrintMore
set_option maxHeartbeats 8000000
set_option maxRecDepth 100000
attribute [local go_sem] ZbL ZbJ ZbZ ZbY Zbw Zbv ZbK ZbI
set_option linter.unusedVariables false
set_option linter.unusedSimpArgs false
def Zba.l0 : Nat → ByteArray → Int → Option (ByteArray)
 | 0,_,_ => none
 | k + 1,x0,x3 => if (wrap64 (x3 + 1)) < (x0.size : Int) then (if 0 ≤ x3 then (if x3 < (x0.size : Int) then (if (bt x0 x3) = 48 then (Zba.l0 k x0 (wrap64 (x3 + 1))) else (if (x0.size : Int) = 0 then (some (⟨#[48]⟩ : ByteArray)) else (if x3 ≤ (x0.size : Int) then (some (x0.extract (x3 : Int).toNat x0.size)) else (none)))) else (none)) else (none)) else (if (x0.size : Int) = 0 then (some (⟨#[48]⟩ : ByteArray)) else (if 0 ≤ x3 then (if x3 ≤ (x0.size : Int) then (some (x0.extract (x3 : Int).toNat x0.size)) else (none)) else (none)))
def Zba.f (k : Nat) (a0 : ByteArray) : Option (ByteArray):=Zba.l0 k a0 0
theorem Zba.calls (k : Nat) (a0 : ByteArray) (r : ByteArray) (w : World) (h : Zba.f k a0 = some r) :
  Calls Tryz.prog 53 #[.string a0] w fun e w' => e = .returned (.string r) ∧ ZaB w w':=by
 have H : (Zba.l0 k a0 0) = some r:=h;clear h;have H':=Zaa.mk H;clear H;go_enter Tryz.func53,Tryz.ntmps53;go_wp2;go_loopg [3] k (fun kq v3 w' => ∃ (x3_1 : Int),v3 = .int .i64 x3_1 ∧ Zaa (Zba.l0 kq a0 x3_1 = some r) ∧ Zaa (kq ≤ k) ∧ ZaB w w')
 case atStart => exact ⟨(0),zE,H',⟨Nat.le_refl _⟩,zW⟩
 case round =>
  clear H';obtain ⟨x3_1,rfl,HA,HK1,⟨m1,rfl⟩⟩:=hrel
  cases gk with
  | zero => exact absurd HA.out (by simp [Zba.l0])
  | succ k1 =>
   have H:=HA.out;clear HA;simp only [Zba.l0] at H;by_cases c2 : (wrap64 (x3_1 + 1)) < (a0.size : Int)
   ·rw [if_pos c2] at H;have c2b0:=decide_eq_true c2;clear c2;by_cases c3 : 0 ≤ x3_1
    ·rw [if_pos c3] at H;have c3b0:=decide_eq_true c3;clear c3;by_cases c4 : x3_1 < (a0.size : Int)
     ·rw [if_pos c4] at H;have c4b0:=decide_eq_true c4;clear c4;by_cases c6 : (bt a0 x3_1) = 48
      ·rw [if_pos c6] at H;have c6b0 : ((bt a0 x3_1) == 48) = true:=beq_iff_eq.mpr c6;have c6b1 : ((bt a0 x3_1) != 48) = false:=bne_eq_false_iff_eq.mpr c6;clear c6;have H':=Zaa.mk H;clear H;have p5 : 0 ≤ (x3_1 : Int):=of_decide_eq_true zA;have q5 : x3_1 < (a0.size : Int):=of_decide_eq_true zA;have hx5:=Za8 a0 x3_1;replace p5:=eq_true p5;replace q5:=eq_true q5;go_wp2;go_roundg k1
       case measure => have:=HK1.out;omega
       case rel => exact ⟨(wrap64 (x3_1 + 1)),zE,H',⟨by have:=HK1.out;omega⟩,zW⟩
      ·rw [if_neg c6] at H;have c6b0 : ((bt a0 x3_1) == 48) = false:=beq_eq_false_iff_ne.mpr c6;have c6b1 : ((bt a0 x3_1) != 48) = true:=bne_iff_ne.mpr c6;by_cases c7 : (a0.size : Int) = 0
       ·rw [if_pos c7] at H;have c7b0 : ((a0.size : Int) == 0) = true:=beq_iff_eq.mpr c7;have c7b1 : ((a0.size : Int) != 0) = false:=bne_eq_false_iff_eq.mpr c7;clear c7;obtain rfl:=Option.some.inj H;have p5 : 0 ≤ (x3_1 : Int):=of_decide_eq_true zA;have q5 : x3_1 < (a0.size : Int):=of_decide_eq_true zA;have hx5:=Za8 a0 x3_1;replace p5:=eq_true p5;replace q5:=eq_true q5;go_wp2;go_ret;exact ⟨zE,zW⟩
       ·rw [if_neg c7] at H;have c7b0 : ((a0.size : Int) == 0) = false:=beq_eq_false_iff_ne.mpr c7;have c7b1 : ((a0.size : Int) != 0) = true:=bne_iff_ne.mpr c7;have c8b0:=eq_true (of_decide_eq_true zA : 0 ≤ x3_1);by_cases c9 : x3_1 ≤ (a0.size : Int)
        ·rw [if_pos c9] at H;have c9b0:=eq_true c9;have c9b1:=decide_eq_true c9;clear c9;obtain rfl:=Option.some.inj H;have p5 : 0 ≤ (x3_1 : Int):=of_decide_eq_true zA;have q5 : x3_1 < (a0.size : Int):=of_decide_eq_true zA;have hx5:=Za8 a0 x3_1;replace p5:=eq_true p5;replace q5:=eq_true q5;go_wp2;go_ret;exact ⟨zE,zW⟩
        ·rw [if_neg c9] at H;exact absurd H (by simp)
     ·rw [if_neg c4] at H;exact absurd H (by simp)
    ·rw [if_neg c3] at H;exact absurd H (by simp)
   ·rw [if_neg c2] at H;have c2b0:=decide_eq_false c2;clear c2;by_cases c10 : (a0.size : Int) = 0
    ·rw [if_pos c10] at H;have c10b0 : ((a0.size : Int) == 0) = true:=beq_iff_eq.mpr c10;have c10b1 : ((a0.size : Int) != 0) = false:=bne_eq_false_iff_eq.mpr c10;clear c10;obtain rfl:=Option.some.inj H;go_wp2;go_ret;exact ⟨zE,zW⟩
    ·rw [if_neg c10] at H;have c10b0 : ((a0.size : Int) == 0) = false:=beq_eq_false_iff_ne.mpr c10;have c10b1 : ((a0.size : Int) != 0) = true:=bne_iff_ne.mpr c10;by_cases c11 : 0 ≤ x3_1
     ·rw [if_pos c11] at H;have c11b0:=eq_true c11;have c11b1:=decide_eq_true c11;clear c11;by_cases c12 : x3_1 ≤ (a0.size : Int)
      ·rw [if_pos c12] at H;have c12b0:=eq_true c12;have c12b1:=decide_eq_true c12;clear c12;obtain rfl:=Option.some.inj H;go_wp2;go_ret;exact ⟨zE,zW⟩
      ·rw [if_neg c12] at H;exact absurd H (by simp)
     ·rw [if_neg c11] at H;exact absurd H (by simp)
def ZaQ.l0 : Nat → ByteArray → Int → Option (Bool)
 | 0,_,_ => none
 | k + 1,x0,x3 => if x3 < (x0.size : Int) then (if 0 ≤ x3 then (if (bt x0 x3) = 48 then (ZaQ.l0 k x0 (wrap64 (x3 + 1))) else (some false)) else (none)) else (some true)
def ZaQ.f (k : Nat) (a0 : ByteArray) : Option (Bool):=ZaQ.l0 k a0 0
theorem ZaQ.calls (k : Nat) (a0 : ByteArray) (r : Bool) (w : World) (h : ZaQ.f k a0 = some r) :
  Calls Tryz.prog 54 #[.string a0] w fun e w' => e = .returned (.bool r) ∧ ZaB w w':=by
 have H : (ZaQ.l0 k a0 0) = some r:=h;clear h;have H':=Zaa.mk H;clear H;go_enter Tryz.func54,Tryz.ntmps54;go_wp2;go_loopg [3] k (fun kq v3 w' => ∃ (x3_1 : Int),v3 = .int .i64 x3_1 ∧ Zaa (ZaQ.l0 kq a0 x3_1 = some r) ∧ Zaa (kq ≤ k) ∧ ZaB w w')
 case atStart => exact ⟨(0),zE,H',⟨Nat.le_refl _⟩,zW⟩
 case round =>
  clear H';obtain ⟨x3_1,rfl,HA,HK1,⟨m1,rfl⟩⟩:=hrel
  cases gk with
  | zero => exact absurd HA.out (by simp [ZaQ.l0])
  | succ k1 =>
   have H:=HA.out;clear HA;simp only [ZaQ.l0] at H;by_cases c2 : x3_1 < (a0.size : Int)
   ·rw [if_pos c2] at H;have c2b0:=decide_eq_true c2;clear c2;by_cases c3 : 0 ≤ x3_1
    ·rw [if_pos c3] at H;have c3b0:=decide_eq_true c3;clear c3;by_cases c5 : (bt a0 x3_1) = 48
     ·rw [if_pos c5] at H;have c5b0 : ((bt a0 x3_1) == 48) = true:=beq_iff_eq.mpr c5;have c5b1 : ((bt a0 x3_1) != 48) = false:=bne_eq_false_iff_eq.mpr c5;clear c5;have H':=Zaa.mk H;clear H;have p4 : 0 ≤ (x3_1 : Int):=of_decide_eq_true zA;have q4 : x3_1 < (a0.size : Int):=of_decide_eq_true zA;have hx4:=Za8 a0 x3_1;replace p4:=eq_true p4;replace q4:=eq_true q4;go_wp2;go_roundg k1
      case measure => have:=HK1.out;omega
      case rel => exact ⟨(wrap64 (x3_1 + 1)),zE,H',⟨by have:=HK1.out;omega⟩,zW⟩
     ·rw [if_neg c5] at H;have c5b0 : ((bt a0 x3_1) == 48) = false:=beq_eq_false_iff_ne.mpr c5;have c5b1 : ((bt a0 x3_1) != 48) = true:=bne_iff_ne.mpr c5;obtain rfl:=Option.some.inj H;have p4 : 0 ≤ (x3_1 : Int):=of_decide_eq_true zA;have q4 : x3_1 < (a0.size : Int):=of_decide_eq_true zA;have hx4:=Za8 a0 x3_1;replace p4:=eq_true p4;replace q4:=eq_true q4;go_wp2;go_ret;exact ⟨zE,zW⟩
    ·rw [if_neg c3] at H;exact absurd H (by simp)
   ·rw [if_neg c2] at H;have c2b0:=decide_eq_false c2;clear c2;obtain rfl:=Option.some.inj H;go_wp2;go_ret;exact ⟨zE,zW⟩
mutual
def Zar.j0 : Nat → ByteArray → Bool → Option (Bool)
 | 0,_,_ => none
 | k + 1,x0,x17 => if x17 = true then (some false) else (Zar.l0 k x0 0)
def Zar.l0 : Nat → ByteArray → Int → Option (Bool)
 | 0,_,_ => none
 | k + 1,x0,x3 => if x3 < (x0.size : Int) then (if 0 ≤ x3 then (if (bt x0 x3) < 48 then (some false) else (if (bt x0 x3) > 57 then (some false) else (Zar.l0 k x0 (wrap64 (x3 + 1))))) else (none)) else (some true)
end
def Zar.f (k : Nat) (a0 : ByteArray) : Option (Bool):=(Za6.f (a0.size : Int) 1 800).bind fun t233 => (if t233 = true then (if (a0.size : Int) > 1 then (if 0 < (a0.size : Int) then (Zar.j0 k a0 ((bt a0 0) == 48)) else (none)) else (Zar.j0 k a0 false)) else (Zar.j0 k a0 true))
theorem Zar.calls (k : Nat) (a0 : ByteArray) (r : Bool) (w : World) (h : Zar.f k a0 = some r) :
  Calls Tryz.prog 68 #[.string a0] w fun e w' => e = .returned (.bool r) ∧ ZaB w w':=by
 have H : ((Za6.f (a0.size : Int) 1 800).bind fun t233 => (if t233 = true then (if (a0.size : Int) > 1 then (if 0 < (a0.size : Int) then (Zar.j0 k a0 ((bt a0 0) == 48)) else (none)) else (Zar.j0 k a0 false)) else (Zar.j0 k a0 true))) = some r:=h;clear h;have HC2:=Zaa.mk H;clear H;go_enter Tryz.func68,Tryz.ntmps68;go_upto_region 1 with (fail);go_cut [17] (fun v17 wc => ∃ (kq : Nat) (x17_1 : Bool),v17 = .bool x17_1 ∧ Zaa (Zar.j0 kq a0 x17_1 = some r) ∧ Zaa (kq ≤ k) ∧ ZaB w wc)
 case first =>
  have H:=HC2.out;clear HC2;replace H:=zM H;obtain ⟨t233,A30,H⟩:=H
  try dsimp only at H
  have A3:=Zaa.mk A30;clear A30;by_cases c4 : t233 = true
  ·subst c4;have H1:=H;rw [if_pos rfl] at H1;clear H;have H:=H1;clear H1;by_cases c5 : (a0.size : Int) > 1
   ·rw [if_pos c5] at H;have c5b0 : decide (1 < (a0.size : Int)) = true:=decide_eq_true c5;have c5b1 : decide (1 < a0.size) = true:=decide_eq_true (by omega);clear c5;(first | rw [c5b0] | (simp only [ZaU,Zbc];rw [c5b0]) | skip);by_cases c6 : 0 < (a0.size : Int)
    ·rw [if_pos c6] at H;have c6b0:=decide_eq_true c6;have c6b1 : decide (0 < a0.size) = true:=decide_eq_true (by omega);clear c6;have H':=Zaa.mk H;clear H;go_wp2_with (first | ((with_reducible refine Zaf (f:=52) rfl ?_);refine Zav (some 6) rfl rfl Tryz.func52 (by kernel_rfl) rfl #[.int .i64 (a0.size : Int),.int .i64 1,.int .i64 800] rfl zL ?_;(with_reducible refine (Za6.calls (a0.size : Int) 1 800 true _ A3.out).mono ?_);rintro e w' ⟨rfl,⟨nd,rfl⟩⟩;refine ⟨_,rfl,?_⟩;have p7 : 0 ≤ (0 : Int):=(by omega);have q7 : 0 < a0.size:=(by have : (0 : Int) < (a0.size : Int):=of_decide_eq_true zA;omega);have hx7 : ∀ h : 0 < a0.size,((a0[0]'h).toNat : Int) = bt a0 0:=Za8 a0 0;clear p7;have qi7 : (0 < (a0.size : Int)) = True:=eq_true (of_decide_eq_true zA);replace q7:=eq_true q7));go_meet
     case rel => exact ⟨_,(((bt a0 0) == 48)),zE,H',⟨by first | omega | exact Nat.le_refl _⟩,zW⟩
    ·rw [if_neg c6] at H;exact absurd H (by simp)
   ·rw [if_neg c5] at H;have c5b0 : decide (1 < (a0.size : Int)) = false:=decide_eq_false c5;have c5b1 : decide (1 < a0.size) = false:=decide_eq_false (by omega);clear c5;(first | rw [c5b0] | (simp only [ZaU,Zbc];rw [c5b0]) | skip);have H':=Zaa.mk H;clear H;go_wp2_with (first | ((with_reducible refine Zaf (f:=52) rfl ?_);refine Zav (some 6) rfl rfl Tryz.func52 (by kernel_rfl) rfl #[.int .i64 (a0.size : Int),.int .i64 1,.int .i64 800] rfl zL ?_;(with_reducible refine (Za6.calls (a0.size : Int) 1 800 true _ A3.out).mono ?_);rintro e w' ⟨rfl,⟨nd,rfl⟩⟩;refine ⟨_,rfl,?_⟩));go_meet
    case rel => exact ⟨_,(false),zE,H',⟨by first | omega | exact Nat.le_refl _⟩,zW⟩
  ·replace c4:=Bool.eq_false_iff.mpr c4;subst c4;have H1:=H;rw [if_neg (show ¬ (false = true) by decide)] at H1;clear H;have H:=H1;clear H1;have H':=Zaa.mk H;clear H;go_wp2_with (first | ((with_reducible refine Zaf (f:=52) rfl ?_);refine Zav (some 6) rfl rfl Tryz.func52 (by kernel_rfl) rfl #[.int .i64 (a0.size : Int),.int .i64 1,.int .i64 800] rfl zL ?_;(with_reducible refine (Za6.calls (a0.size : Int) 1 800 false _ A3.out).mono ?_);rintro e w' ⟨rfl,⟨nd,rfl⟩⟩;refine ⟨_,rfl,?_⟩));go_meet
   case rel => exact ⟨_,(true),zE,H',⟨by first | omega | exact Nat.le_refl _⟩,zW⟩
 case rest =>
  clear HC2
  try clear hx7
  try clear qi7
  obtain ⟨kq,x17_1,rfl,HA,HJ1,⟨mc1,rfl⟩⟩:=hcut
  cases kq with
  | zero => exact absurd HA.out (by simp [Zar.j0])
  | succ kj1 =>
   have H:=HA.out;clear HA;simp only [Zar.j0] at H;by_cases c8 : x17_1 = true
   ·subst c8;(have H1 : (some false) = some r:=by rw [if_pos rfl] at H;exact H);clear H;have H:=H1;clear H1;obtain rfl:=Option.some.inj H;go_wp2;go_ret;exact ⟨zE,zW⟩
   ·replace c8:=Bool.eq_false_iff.mpr c8;subst c8;have H1:=H;rw [if_neg (show ¬ (false = true) by decide)] at H1;clear H;have H:=H1;clear H1;have H':=Zaa.mk H;clear H;go_wp2;go_loopg [3] kj1 (fun kq v3 w' => ∃ (x3_2 : Int),v3 = .int .i64 x3_2 ∧ Zaa (Zar.l0 kq a0 x3_2 = some r) ∧ Zaa (kq ≤ kj1) ∧ ZaB w w')
    case atStart => exact ⟨(0),zE,H',⟨Nat.le_refl _⟩,zW⟩
    case round =>
     clear H'
     try clear hx7
     try clear qi7
     obtain ⟨x3_2,rfl,HA,HK2,⟨m2,rfl⟩⟩:=hrel
     cases gk with
     | zero => exact absurd HA.out (by simp [Zar.l0])
     | succ k2 =>
      have H:=HA.out;clear HA;simp only [Zar.l0] at H;by_cases c9 : x3_2 < (a0.size : Int)
      ·rw [if_pos c9] at H;have c9b0:=decide_eq_true c9;clear c9;by_cases c10 : 0 ≤ x3_2
       ·rw [if_pos c10] at H;have c10b0:=decide_eq_true c10;clear c10;by_cases c12 : (bt a0 x3_2) < 48
        ·rw [if_pos c12] at H;have c12b0:=decide_eq_true c12;clear c12;obtain rfl:=Option.some.inj H;have p11 : 0 ≤ (x3_2 : Int):=of_decide_eq_true zA;have q11 : x3_2 < (a0.size : Int):=of_decide_eq_true zA;have hx11:=Za8 a0 x3_2;replace p11:=eq_true p11;replace q11:=eq_true q11;go_wp2;go_ret;exact ⟨zE,zW⟩
        ·rw [if_neg c12] at H;have c12b0:=decide_eq_false c12;clear c12;by_cases c14 : (bt a0 x3_2) > 57
         ·rw [if_pos c14] at H;have c14b0 : decide (57 < (bt a0 x3_2)) = true:=decide_eq_true c14;clear c14;obtain rfl:=Option.some.inj H;have p11 : 0 ≤ (x3_2 : Int):=of_decide_eq_true zA;have q11 : x3_2 < (a0.size : Int):=of_decide_eq_true zA;have hx11:=Za8 a0 x3_2;replace p11:=eq_true p11;replace q11:=eq_true q11;have p13 : 0 ≤ (x3_2 : Int):=of_decide_eq_true zA;have q13 : x3_2 < (a0.size : Int):=of_decide_eq_true zA;have hx13:=Za8 a0 x3_2;replace p13:=eq_true p13;replace q13:=eq_true q13;go_wp2;go_ret;exact ⟨zE,zW⟩
         ·rw [if_neg c14] at H;have c14b0 : decide (57 < (bt a0 x3_2)) = false:=decide_eq_false c14;clear c14;have H':=Zaa.mk H;clear H;have p11 : 0 ≤ (x3_2 : Int):=of_decide_eq_true zA;have q11 : x3_2 < (a0.size : Int):=of_decide_eq_true zA;have hx11:=Za8 a0 x3_2;replace p11:=eq_true p11;replace q11:=eq_true q11;have p13 : 0 ≤ (x3_2 : Int):=of_decide_eq_true zA;have q13 : x3_2 < (a0.size : Int):=of_decide_eq_true zA;have hx13:=Za8 a0 x3_2;replace p13:=eq_true p13;replace q13:=eq_true q13;go_wp2;go_roundg k2
          case measure => have:=HJ1.out;have:=HK2.out;omega
          case rel => exact ⟨(wrap64 (x3_2 + 1)),zE,H',⟨by have:=HJ1.out;have:=HK2.out;omega⟩,zW⟩
       ·rw [if_neg c10] at H;exact absurd H (by simp)
      ·rw [if_neg c9] at H;have c9b0:=decide_eq_false c9;clear c9;obtain rfl:=Option.some.inj H;go_wp2;go_ret;exact ⟨zE,zW⟩
def Zau.l0 : Nat → List Int → Int → Int → List Int → Int → Option (List Int)
 | 0,_,_,_,_,_ => none
 | k + 1,x0,x1,x2,x7,x8 => if x8 < (x0.length : Int) then (if 0 ≤ x8 then (if x7.length < 17592186044416 then (Zau.l0 k x0 x1 (IntKind.u64.wrap (Int.tdiv (IntKind.u64.wrap ((IntKind.u64.wrap ((rd x0 x8) * x1)) + x2)) 4294967296)) (x7 ++ [Int.tmod (IntKind.u64.wrap ((IntKind.u64.wrap ((rd x0 x8) * x1)) + x2)) 4294967296]) (wrap64 (x8 + 1))) else (none)) else (none)) else (if x2 > 0 then (if x7.length < 17592186044416 then (some (x7 ++ [x2])) else (none)) else (some x7))
def Zau.f (k : Nat) (l0 : List Int) (a1 : Int) (a2 : Int) : Option (List Int):=Zau.l0 k l0 a1 a2 (([] : List Int)) 0
theorem Zau.calls (k : Nat) (A0 : Option Addr) (c0 : Nat) (l0 : List Int) (a1 : Int) (a2 : Int) (r : List Int) (w : World) (hr0 : Kd.C (Kd.int .u64) w A0 l0.length l0) (hc0 : l0.length ≤ c0) (h : Zau.f k l0 a1 a2 = some r) :
  Calls Tryz.prog 70 #[.slice A0 l0.length c0,.int .u64 a1,.int .u64 a2] w fun e w' => ∃ v0_ : Value,e = .returned (v0_) ∧ Kd.R (Kd.int .u64) 28 w' w.heap.size (fun _ => True) v0_ r ∧ Below w.heap.size w w':=by
 have HR0:=Zaa.mk hr0;have HC0:=Zaa.mk hc0;clear hr0 hc0;have HB:=Zaa.mk (Below.refl w.heap.size w);have H : (Zau.l0 k l0 a1 a2 (([] : List Int)) 0) = some r:=h;clear h;obtain ⟨y234,hy234⟩ : ∃ y_ : List Int,y_ = (([] : List Int)):=⟨_,rfl⟩;replace H : (Zau.l0 k l0 a1 a2 y234 0) = some r:=zT hy234 H;have Ny234:=Zaa.mk hy234;clear hy234;have H':=Zaa.mk H;clear H;go_enter Tryz.func70,Tryz.ntmps70;go_wp2_with (first | ((with_reducible refine Zay (N:=10) rfl ?_);refine Kd.Zck (Kd.int .u64) _ 28 ?hg (N:=10) ?hd (xs:=([] : List Int)) (inner:=[]) (ok:=fun _ => True) (okp:=fun _ => True) ?hr ?hp (fun _ hk => hk) trivial (Below.refl _ _) (Nat.le_refl _) (by simp) ?_;(case hd => rfl);(case hg => rfl);(case hr => first | (go_simp;done) | (go_simp;rfl));(case hp => exact (Reps.none _ _));intro v235 w4 ho5 hb hg_ hnew_;clear hg_ hnew_;(first | rw [← Ny234.out] at ho5 | (simp only [Int.reduceToNat] at ho5;rw [← Ny234.out] at ho5));have n0_:=Zaa.mk (Kd.Zbk ho5 (Zaw zB));have n1_:=Zaa.mk (Zao zB hb);clear HB;have HO236:=n0_;have HB:=n1_;clear n0_ n1_;clear hb ho5));go_loopg [2,7,8] k (fun kq v2 v7 v8 w' => ∃ (x2_1 : Int) (x7_1 : List Int) (x8_1 : Int),v2 = .int .u64 x2_1 ∧ v8 = .int .i64 x8_1 ∧ Zaa (Zau.l0 kq l0 a1 x2_1 x7_1 x8_1 = some r) ∧ Zaa (kq ≤ k) ∧ Zaa (Kd.R (Kd.int .u64) 28 w' w.heap.size (fun _ => True) v7 x7_1) ∧ Zaa (Below w.heap.size w w'))
 case atStart => exact ⟨(a2),(y234),(0),zE,zE,H',⟨Nat.le_refl _⟩,⟨zR HO236.out⟩,⟨zB⟩⟩
 case round =>
  clear H';obtain ⟨x2_1,x7_1,x8_1,rfl,rfl,HA,HK1,HO_7,HB⟩:=hrel
  cases gk with
  | zero => exact absurd HA.out (by simp [Zau.l0])
  | succ k1 =>
   have H:=HA.out;clear HA;simp only [Zau.l0] at H;by_cases c6 : x8_1 < (l0.length : Int)
   ·rw [if_pos c6] at H;have c6b0:=decide_eq_true c6;clear c6;by_cases c7 : 0 ≤ x8_1
    ·rw [if_pos c7] at H;have c7b0:=decide_eq_true c7;clear c7;by_cases c8 : x7_1.length < 17592186044416
     ·rw [if_pos c8] at H;have LMc8:=Zaa.mk c8;clear c8;obtain ⟨y238,hy238⟩ : ∃ y_ : List Int,y_ = (x7_1 ++ [Int.tmod (IntKind.u64.wrap ((IntKind.u64.wrap ((rd l0 x8_1) * a1)) + x2_1)) 4294967296]):=⟨_,rfl⟩;replace H : (Zau.l0 k1 l0 a1 (IntKind.u64.wrap (Int.tdiv (IntKind.u64.wrap ((IntKind.u64.wrap ((rd l0 x8_1) * a1)) + x2_1)) 4294967296)) y238 (wrap64 (x8_1 + 1))) = some r:=zT hy238 H;have Ny238:=Zaa.mk hy238;clear hy238;have H':=Zaa.mk H;clear H;have p237 : 0 ≤ (x8_1 : Int):=of_decide_eq_true zA;have q237 : x8_1 < (l0.length : Int):=of_decide_eq_true zA;obtain ⟨ad237,e237,hx237_0⟩:=Kd.Zct HR0.out x8_1 p237 q237;cases e237;replace hx237_0:=(HB.out.cell (World.block_lt_of_cell? w _ hx237_0)).trans hx237_0;replace p237:=eq_true p237;replace q237:=eq_true q237;go_wp2_with (first | ((with_reducible refine ZbN (b:=.append) (xs := #[.tmp 25,.tmp 28]) rfl ?_);at_builtin;refine Kd.ZcL (Kd.int .u64) (w0:=w) w.heap.size rfl (.tmp 25) (.tmp 28) 84 28 (.int .u64 0) 8 rfl Tryz.underlying84 Zfp rfl (by decide) (by omega) u7 x7_1 (Int.tmod (IntKind.u64.wrap ((IntKind.u64.wrap ((rd l0 x8_1) * a1)) + x2_1)) 4294967296) [.int .u64 (Int.tmod (IntKind.u64.wrap ((IntKind.u64.wrap ((rd l0 x8_1) * a1)) + x2_1)) 4294967296)] (fun _ => True) (fun _ => False) rfl rfl ?aP (fun _ hk => hk.elim) ?aF ?aO ?aB ?aS ?aL ?_;(case aP => exact rfl);(case aB => exact zB);(case aF => exact (fun _ _ => trivial));(case aO => exact (zR HO_7.out));(case aS => exact (Zaw zB));(case aL => have:=LMc8.out;omega);intro v239 w9 ho hb hg hat;rw [← Ny238.out] at ho;have n0_:=Zaa.mk (hb);have n1_:=Zaa.mk (ho);clear HB;clear HO_7;have HB:=n0_;have HO240:=n1_;clear n0_ n1_;clear ho hb hg hat));go_roundg k1
      case measure => have:=HK1.out;omega
      case rel => exact ⟨(IntKind.u64.wrap (Int.tdiv (IntKind.u64.wrap ((IntKind.u64.wrap ((rd l0 x8_1) * a1)) + x2_1)) 4294967296)),(y238),(wrap64 (x8_1 + 1)),zE,zE,H',⟨by have:=HK1.out;omega⟩,⟨zR HO240.out⟩,⟨zB⟩⟩
     ·rw [if_neg c8] at H;exact absurd H (by simp)
    ·rw [if_neg c7] at H;exact absurd H (by simp)
   ·rw [if_neg c6] at H;have c6b0:=decide_eq_false c6;clear c6;by_cases c10 : x2_1 > 0
    ·rw [if_pos c10] at H;have c10b0 : decide (0 < x2_1) = true:=decide_eq_true c10;clear c10;by_cases c11 : x7_1.length < 17592186044416
     ·rw [if_pos c11] at H;have LMc11:=Zaa.mk c11;clear c11;obtain ⟨y241,hy241⟩ : ∃ y_ : List Int,y_ = (x7_1 ++ [x2_1]):=⟨_,rfl⟩;replace H : (some y241) = some r:=zT hy241 H;have Ny241:=Zaa.mk hy241;clear hy241;obtain rfl:=Option.some.inj H;go_wp2_with (first | ((with_reducible refine ZbN (b:=.append) (xs := #[.tmp 34,.tmp 36]) rfl ?_);at_builtin;refine Kd.ZcL (Kd.int .u64) (w0:=w) w.heap.size rfl (.tmp 34) (.tmp 36) 84 28 (.int .u64 0) 8 rfl Tryz.underlying84 Zfp rfl (by decide) (by omega) u7 x7_1 x2_1 [.int .u64 x2_1] (fun _ => True) (fun _ => False) rfl rfl ?aP (fun _ hk => hk.elim) ?aF ?aO ?aB ?aS ?aL ?_;(case aP => exact rfl);(case aB => exact zB);(case aF => exact (fun _ _ => trivial));(case aO => exact (zR HO_7.out));(case aS => exact (Zaw zB));(case aL => have:=LMc11.out;omega);intro v242 w12 ho hb hg hat;rw [← Ny241.out] at ho;have n0_:=Zaa.mk (hb);have n1_:=Zaa.mk (ho);clear HB;clear HO_7;have HB:=n0_;have HO243:=n1_;clear n0_ n1_;clear ho hb hg hat));go_ret;exact ⟨_,by first | rfl | (simp [ZaF,ZaE] <;> rfl) | (simp [*,ZaF,ZaE] <;> rfl),by (with_reducible repeat (first | apply Kd.Zby | apply Kd.Zbx | apply Kd.ZbU));exact HO243.out,zB⟩
     ·rw [if_neg c11] at H;exact absurd H (by simp)
    ·rw [if_neg c10] at H;have c10b0 : decide (0 < x2_1) = false:=decide_eq_false c10;clear c10;obtain rfl:=Option.some.inj H;go_wp2;go_ret;exact ⟨_,by first | rfl | (simp [ZaF,ZaE] <;> rfl) | (simp [*,ZaF,ZaE] <;> rfl),by (with_reducible repeat (first | apply Kd.Zby | apply Kd.Zbx | apply Kd.ZbU));exact HO_7.out,zB⟩
def Zbm.l0 : Nat → ByteArray → List Int → Int → Option (List Int)
 | 0,_,_,_ => none
 | k + 1,x0,x3,x4 => if x4 < (x0.size : Int) then (if 0 ≤ x4 then ((Zau.f k x3 10 (IntKind.u64.wrap ((IntKind.u64.wrap (bt x0 x4)) - 48))).bind fun t247 => (Zbm.l0 k x0 t247 (wrap64 (x4 + 1)))) else (none)) else (some x3)
def Zbm.f (k : Nat) (a0 : ByteArray) : Option (List Int):=Zbm.l0 k a0 (([] : List Int)) 0
theorem Zbm.calls (k : Nat) (a0 : ByteArray) (r : List Int) (w : World) (h : Zbm.f k a0 = some r) :
  Calls Tryz.prog 69 #[.string a0] w fun e w' => ∃ v0_ : Value,e = .returned (v0_) ∧ Kd.R (Kd.int .u64) 28 w' w.heap.size (fun _ => True) v0_ r ∧ Below w.heap.size w w':=by
 have HB:=Zaa.mk (Below.refl w.heap.size w);have H : (Zbm.l0 k a0 (([] : List Int)) 0) = some r:=h;clear h;obtain ⟨y244,hy244⟩ : ∃ y_ : List Int,y_ = (([] : List Int)):=⟨_,rfl⟩;replace H : (Zbm.l0 k a0 y244 0) = some r:=zT hy244 H;have Ny244:=Zaa.mk hy244;clear hy244;have H':=Zaa.mk H;clear H;go_enter Tryz.func69,Tryz.ntmps69;go_wp2_with (first | ((with_reducible refine Zay (N:=5) rfl ?_);refine Kd.Zck (Kd.int .u64) _ 28 ?hg (N:=5) ?hd (xs:=([] : List Int)) (inner:=[]) (ok:=fun _ => True) (okp:=fun _ => True) ?hr ?hp (fun _ hk => hk) trivial (Below.refl _ _) (Nat.le_refl _) (by simp) ?_;(case hd => rfl);(case hg => rfl);(case hr => first | (go_simp;done) | (go_simp;rfl));(case hp => exact (Reps.none _ _));intro v245 w2 ho3 hb hg_ hnew_;clear hg_ hnew_;(first | rw [← Ny244.out] at ho3 | (simp only [Int.reduceToNat] at ho3;rw [← Ny244.out] at ho3));have n0_:=Zaa.mk (Kd.Zbk ho3 (Zaw zB));have n1_:=Zaa.mk (Zao zB hb);clear HB;have HO246:=n0_;have HB:=n1_;clear n0_ n1_;clear hb ho3));go_loopg [3,4] k (fun kq v3 v4 w' => ∃ (x3_1 : List Int) (x4_1 : Int),v4 = .int .i64 x4_1 ∧ Zaa (Zbm.l0 kq a0 x3_1 x4_1 = some r) ∧ Zaa (kq ≤ k) ∧ Zaa (Kd.R (Kd.int .u64) 28 w' w.heap.size (fun _ => True) v3 x3_1) ∧ Zaa (Below w.heap.size w w'))
 case atStart => exact ⟨(y244),(0),zE,H',⟨Nat.le_refl _⟩,⟨zR HO246.out⟩,⟨zB⟩⟩
 case round =>
  clear H';obtain ⟨x3_1,x4_1,rfl,HA,HK1,HO_3,HB⟩:=hrel
  cases gk with
  | zero => exact absurd HA.out (by simp [Zbm.l0])
  | succ k1 =>
   have H:=HA.out;clear HA;simp only [Zbm.l0] at H;by_cases c4 : x4_1 < (a0.size : Int)
   ·rw [if_pos c4] at H;have c4b0:=decide_eq_true c4;clear c4;by_cases c5 : 0 ≤ x4_1
    ·rw [if_pos c5] at H;have c5b0:=decide_eq_true c5;clear c5;replace H:=zM H;obtain ⟨t247,A70,H⟩:=H
     try dsimp only at H
     have A7:=Zaa.mk A70;clear A70;have H':=Zaa.mk H;clear H;have p6 : 0 ≤ (x4_1 : Int):=of_decide_eq_true zA;have q6 : x4_1 < (a0.size : Int):=of_decide_eq_true zA;have hx6:=Za8 a0 x4_1;replace p6:=eq_true p6;replace q6:=eq_true q6;obtain ⟨Ao8,co8,eo8⟩:=Kd.Zbs HO_3.out;subst eo8;go_wp2_with (first | ((with_reducible refine Zaf (f:=70) rfl ?_);refine Zav (some 18) rfl rfl Tryz.func70 (by kernel_rfl) rfl #[.slice Ao8 x3_1.length co8,.int .u64 10,.int .u64 (IntKind.u64.wrap ((IntKind.u64.wrap (bt a0 x4_1)) - 48))] rfl zL ?_;(with_reducible refine (Zau.calls k1 _ _ x3_1 10 (IntKind.u64.wrap ((IntKind.u64.wrap (bt a0 x4_1)) - 48)) t247 _ ?side1 ?side2 A7.out).mono ?_);(case side1 => exact zP (Kd.ZaP HO_3.out).2.2);(case side2 => exact (Kd.ZaP HO_3.out).2.1);rintro e w9 ⟨v248,rfl,ho0,hb⟩;refine ⟨_,rfl,?_⟩;have n0_:=Zaa.mk (Kd.ZbG (zR HO_3.out) (Kd.Zcp ho0) hb);have n1_:=Zaa.mk (Kd.Zbk (Kd.Zco ho0 (Kd.R_lt (zR HO_3.out))) (Zaw zB));have n2_:=Zaa.mk (Zao zB hb);clear HO_3;clear HB;have HO_3:=n0_;have HO249:=n1_;have HB:=n2_;clear n0_ n1_ n2_;(try clear hb);(try clear ho0)));go_roundg k1
     case measure => have:=HK1.out;omega
     case rel => exact ⟨(t247),(wrap64 (x4_1 + 1)),zE,H',⟨by have:=HK1.out;omega⟩,⟨by (with_reducible repeat (first | apply Kd.Zby | apply Kd.Zbx | apply Kd.ZbU));exact Kd.ZbT HO249.out (fun _ hk => trivial)⟩,⟨zB⟩⟩
    ·rw [if_neg c5] at H;exact absurd H (by simp)
   ·rw [if_neg c4] at H;have c4b0:=decide_eq_false c4;clear c4;obtain rfl:=Option.some.inj H;go_wp2;go_ret;exact ⟨_,by first | rfl | (simp [ZaF,ZaE] <;> rfl) | (simp [*,ZaF,ZaE] <;> rfl),by (with_reducible repeat (first | apply Kd.Zby | apply Kd.Zbx | apply Kd.ZbU));exact HO_3.out,zB⟩
def ZaC.l0 : Nat → List Int → Int → Option (Int)
 | 0,_,_ => none
 | k + 1,x0,x3 => if x3 > 0 then (if 0 ≤ (wrap64 (x3 - 1)) then (if (wrap64 (x3 - 1)) < (x0.length : Int) then (if (rd x0 (wrap64 (x3 - 1))) = 0 then (ZaC.l0 k x0 (wrap64 (x3 - 1))) else (some x3)) else (none)) else (none)) else (some x3)
def ZaC.f (k : Nat) (l0 : List Int) : Option (Int):=ZaC.l0 k l0 (l0.length : Int)
theorem ZaC.calls (k : Nat) (A0 : Option Addr) (c0 : Nat) (l0 : List Int) (r : Int) (w : World) (hr0 : Kd.C (Kd.int .u64) w A0 l0.length l0) (hc0 : l0.length ≤ c0) (h : ZaC.f k l0 = some r) :
  Calls Tryz.prog 89 #[.slice A0 l0.length c0] w fun e w' => e = .returned (.int .i64 r) ∧ ZaB w w':=by
 have HR0:=Zaa.mk hr0;have HC0:=Zaa.mk hc0;clear hr0 hc0;have H : (ZaC.l0 k l0 (l0.length : Int)) = some r:=h;clear h;have H':=Zaa.mk H;clear H;go_enter Tryz.func89,Tryz.ntmps89;go_wp2;go_loopg [3] k (fun kq v3 w' => ∃ (x3_1 : Int),v3 = .int .i64 x3_1 ∧ Zaa (ZaC.l0 kq l0 x3_1 = some r) ∧ Zaa (kq ≤ k) ∧ ZaB w w')
 case atStart => exact ⟨((l0.length : Int)),zE,H',⟨Nat.le_refl _⟩,zW⟩
 case round =>
  clear H';obtain ⟨x3_1,rfl,HA,HK1,⟨m1,rfl⟩⟩:=hrel
  cases gk with
  | zero => exact absurd HA.out (by simp [ZaC.l0])
  | succ k1 =>
   have H:=HA.out;clear HA;simp only [ZaC.l0] at H;by_cases c2 : x3_1 > 0
   ·rw [if_pos c2] at H;have c2b0 : decide (0 < x3_1) = true:=decide_eq_true c2;clear c2;obtain ⟨ji3,hji3⟩ : ∃ j_ : Int,(wrap64 (x3_1 - 1)) = j_:=⟨_,rfl⟩
    first | rw [hji3] at H | simp only [hji3] at H
    have hji3w : (IntKind.i64.wrap (x3_1 - 1)) = ji3:=(ZaU _).trans hji3;by_cases c4 : 0 ≤ (ji3)
    ·rw [if_pos c4] at H;have c4b0:=decide_eq_true c4;clear c4;by_cases c5 : (ji3) < (l0.length : Int)
     ·rw [if_pos c5] at H;have c5b0:=decide_eq_true c5;clear c5;by_cases c6 : (rd l0 (ji3)) = 0
      ·rw [if_pos c6] at H;have c6b0 : ((rd l0 (ji3)) == 0) = true:=beq_iff_eq.mpr c6;have c6b1 : ((rd l0 (ji3)) != 0) = false:=bne_eq_false_iff_eq.mpr c6;clear c6;have H':=Zaa.mk H;clear H;have p250 : 0 ≤ ((ji3) : Int):=of_decide_eq_true zA;have q250 : (ji3) < (l0.length : Int):=of_decide_eq_true zA;obtain ⟨ad250,e250,hx250_0⟩:=Kd.Zct HR0.out (ji3) p250 q250;cases e250;replace p250:=eq_true p250;replace q250:=eq_true q250;go_wp2;go_roundg k1
       case measure => have:=HK1.out;omega
       case rel => exact ⟨(ji3),(by first | rfl | (simp;done) | (simp only [← hji3] <;> (first | rfl | simp)) | (simp [*];done)),(by first | exact H' | (rw [hji3];exact H')),⟨by have:=HK1.out;omega⟩,zW⟩
      ·rw [if_neg c6] at H;have c6b0 : ((rd l0 (ji3)) == 0) = false:=beq_eq_false_iff_ne.mpr c6;have c6b1 : ((rd l0 (ji3)) != 0) = true:=bne_iff_ne.mpr c6;obtain rfl:=Option.some.inj H;have p250 : 0 ≤ ((ji3) : Int):=of_decide_eq_true zA;have q250 : (ji3) < (l0.length : Int):=of_decide_eq_true zA;obtain ⟨ad250,e250,hx250_0⟩:=Kd.Zct HR0.out (ji3) p250 q250;cases e250;replace p250:=eq_true p250;replace q250:=eq_true q250;go_wp2;go_ret;exact ⟨by first | rfl | (simp;done) | (simp only [← hji3] <;> (first | rfl | simp)) | (simp [*];done),zW⟩
     ·rw [if_neg c5] at H;exact absurd H (by simp)
    ·rw [if_neg c4] at H;exact absurd H (by simp)
   ·rw [if_neg c2] at H;have c2b0 : decide (0 < x3_1) = false:=decide_eq_false c2;clear c2;obtain rfl:=Option.some.inj H;go_wp2;go_ret;exact ⟨zE,zW⟩
end Go.Proofs.YtfoekmfpcahmiabGreatDoor.MFnTokens
