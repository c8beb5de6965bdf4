-- by this session's own program mp.py over the kit's printer
import Derived.Test.YtfoekmfpcahmiabGreatDoorSQMFnTokensx10
namespace Go.Proofs.YtfoekmfpcahmiabGreatDoor.MFnTokens
open Go.RowKit YtfoekmfpcahmiabGreatDoorW.PrintWords YtfoekmfpcahmiabGreatDoorW.PrintLast YtfoekmfpcahmiabGreatDoorW.PrintMore
set_option maxHeartbeats 8000000
set_option maxRecDepth 100000
attribute [local go_sem] ZbL ZbJ ZbZ ZbY Zbw Zbv ZbK ZbI
set_option linter.unusedVariables false
set_option linter.unusedSimpArgs false
mutual
def Zab.j0 : Nat → Bool → Int → Int → Bool → Option (Int)
 | 0,_,_,_,_ => none
 | k + 1,x0,x1,x2,x3 => if x2 < (-5000) then (Zab.j1 k x0 x1 (-5000) x3) else (Zab.j1 k x0 x1 x2 x3)
def Zab.j1 : Nat → Bool → Int → Int → Bool → Option (Int)
 | 0,_,_,_,_ => none
 | k + 1,x0,x1,x2,x3 => if x3 = true then ((ZaX.f k 56).bind fun t288 => (Zab.j2 k x0 x1 x2 (decide (x1 ≥ t288)))) else (Zab.j2 k x0 x1 x2 false)
def Zab.j2 : Nat → Bool → Int → Int → Bool → Option (Int)
 | 0,_,_,_,_ => none
 | k + 1,x0,x1,x2,x9 => if x1 = 0 then ((Zbe.f k 0 x0).bind fun t289 => (some t289)) else (Zab.l0 k x0 x1 x2 x9)
def Zab.j4 : Nat → Bool → Int → Int → Bool → Option (Int)
 | 0,_,_,_,_ => none
 | k + 1,x0,x1,x2,x9 => Zab.l1 k x0 x1 x2 false x9
def Zab.l1 : Nat → Bool → Int → Int → Bool → Bool → Option (Int)
 | 0,_,_,_,_,_ => none
 | k + 1,x0,x1,x2,x10,x11 => if x1 ≥ 9007199254740992 then (Zab.j6 k x0 x1 x2 x10 x11 true) else (Zab.j6 k x0 x1 x2 x10 x11 (decide (x2 < (-1074))))
def Zab.j6 : Nat → Bool → Int → Int → Bool → Bool → Bool → Option (Int)
 | 0,_,_,_,_,_,_ => none
 | k + 1,x0,x1,x2,x10,x11,x42 => if x42 = true then (if x11 = true then (if (IntKind.u64.wrap (Int.tdiv x1 2)) = 0 then (if (wrap64 (x2 + 1)) < (-1074) then (Zab.l1 k x0 (IntKind.u64.wrap (Int.tdiv x1 2)) (-1074) false true) else (Zab.l1 k x0 (IntKind.u64.wrap (Int.tdiv x1 2)) (wrap64 (x2 + 1)) ((Int.tmod x1 2) == 1) true)) else (Zab.l1 k x0 (IntKind.u64.wrap (Int.tdiv x1 2)) (wrap64 (x2 + 1)) ((Int.tmod x1 2) == 1) true)) else (if (IntKind.u64.wrap (Int.tdiv x1 2)) = 0 then (if (wrap64 (x2 + 1)) < (-1074) then (if x10 = true then (Zab.l1 k x0 (IntKind.u64.wrap (Int.tdiv x1 2)) (-1074) false true) else (Zab.l1 k x0 (IntKind.u64.wrap (Int.tdiv x1 2)) (-1074) false ((Int.tmod x1 2) == 1))) else (Zab.l1 k x0 (IntKind.u64.wrap (Int.tdiv x1 2)) (wrap64 (x2 + 1)) ((Int.tmod x1 2) == 1) x10)) else (Zab.l1 k x0 (IntKind.u64.wrap (Int.tdiv x1 2)) (wrap64 (x2 + 1)) ((Int.tmod x1 2) == 1) x10))) else (if x10 = true then (if x11 = true then (Zab.j7 k x0 x1 x2 true) else (Zab.j7 k x0 x1 x2 ((Int.tmod x1 2) == 1))) else (Zab.j7 k x0 x1 x2 false))
def Zab.j7 : Nat → Bool → Int → Int → Bool → Option (Int)
 | 0,_,_,_,_ => none
 | k + 1,x0,x1,x2,x72 => if x72 = true then (Zab.j8 k x0 (IntKind.u64.wrap (x1 + 1)) x2) else (Zab.j8 k x0 x1 x2)
def Zab.j8 : Nat → Bool → Int → Int → Option (Int)
 | 0,_,_,_ => none
 | k + 1,x0,x1,x2 => if x1 = 9007199254740992 then (Zab.j9 k x0 4503599627370496 (wrap64 (x2 + 1))) else (Zab.j9 k x0 x1 x2)
def Zab.j9 : Nat → Bool → Int → Int → Option (Int)
 | 0,_,_,_ => none
 | k + 1,x0,x1,x2 => if x1 < 4503599627370496 then ((Zbe.f k x1 x0).bind fun t290 => (some t290)) else (if x2 > 971 then ((Zbe.f k 9218868437227405312 x0).bind fun t291 => (some t291)) else ((Zbe.f k (IntKind.u64.wrap ((IntKind.u64.wrap (x1 - 4503599627370496)) + (IntKind.u64.wrap ((IntKind.u64.wrap (wrap64 (x2 + 1075))) * 4503599627370496)))) x0).bind fun t292 => (some t292)))
def Zab.l0 : Nat → Bool → Int → Int → Bool → Option (Int)
 | 0,_,_,_,_ => none
 | k + 1,x0,x1,x2,x9 => if x1 < 4503599627370496 then (if x2 > (-1074) then (Zab.l0 k x0 (IntKind.u64.wrap (x1 * 2)) (wrap64 (x2 - 1)) x9) else (Zab.j4 k x0 x1 x2 x9)) else (Zab.j4 k x0 x1 x2 x9)
end
def Zab.f (k : Nat) (a0 : Bool) (a1 : Int) (a2 : Int) (a3 : Bool) : Option (Int):=if a2 > 5000 then (Zab.j0 k a0 a1 5000 a3) else (Zab.j0 k a0 a1 a2 a3)
theorem Zab.calls (k : Nat) (a0 : Bool) (a1 : Int) (a2 : Int) (a3 : Bool) (r : Int) (w : World) (h : Zab.f k a0 a1 a2 a3 = some r) :
  Calls Tryz.prog 88 #[.bool a0,.int .u64 a1,.int .i64 a2,.bool a3] w fun e w' => e = .returned (.int .u64 r) ∧ ZaB w w':=by
 have H : (if a2 > 5000 then (Zab.j0 k a0 a1 5000 a3) else (Zab.j0 k a0 a1 a2 a3)) = some r:=h;clear h;have HC5:=Zaa.mk H;clear H;go_enter Tryz.func88,Tryz.ntmps88;go_upto_if 13 with (fail);go_cut [2] (fun v2 wc => ∃ (kq : Nat) (x2_4 : Int),v2 = .int .i64 x2_4 ∧ Zaa (Zab.j0 kq a0 a1 x2_4 a3 = some r) ∧ Zaa (kq ≤ k) ∧ ZaB w wc)
 case first =>
  have H:=HC5.out;clear HC5;by_cases c6 : a2 > 5000
  ·rw [if_pos c6] at H;have c6b0 : decide (5000 < a2) = true:=decide_eq_true c6;clear c6;(first | rw [c6b0] | (simp only [ZaU,Zbc];rw [c6b0]) | skip);have H':=Zaa.mk H;clear H;go_wp2;go_meet
   case rel => exact ⟨_,(5000),zE,H',⟨by first | omega | exact Nat.le_refl _⟩,zW⟩
  ·rw [if_neg c6] at H;have c6b0 : decide (5000 < a2) = false:=decide_eq_false c6;clear c6;(first | rw [c6b0] | (simp only [ZaU,Zbc];rw [c6b0]) | skip);have H':=Zaa.mk H;clear H;go_wp2;go_meet
   case rel => exact ⟨_,(a2),zE,H',⟨by first | omega | exact Nat.le_refl _⟩,zW⟩
 case rest =>
  clear HC5;obtain ⟨kq,x2_4,rfl,HA,HJ4,⟨mc4,rfl⟩⟩:=hcut
  cases kq with
  | zero => exact absurd HA.out (by simp [Zab.j0])
  | succ kj4 =>
   have H:=HA.out;clear HA;simp only [Zab.j0] at H;have HC7:=Zaa.mk H;clear H;go_upto_if 15 with (fail);go_cut [2] (fun v2 wc => ∃ (kq : Nat) (x2_6 : Int),v2 = .int .i64 x2_6 ∧ Zaa (Zab.j1 kq a0 a1 x2_6 a3 = some r) ∧ Zaa (kq ≤ kj4) ∧ ZaB w wc)
   case first =>
    have H:=HC7.out;clear HC7;by_cases c8 : x2_4 < (-5000)
    ·rw [if_pos c8] at H;have c8b0:=decide_eq_true c8;clear c8;(first | rw [c8b0] | (simp only [ZaU,Zbc];rw [c8b0]) | skip);have H':=Zaa.mk H;clear H;go_wp2;go_meet
     case rel => exact ⟨_,((-5000)),zE,H',⟨by have:=HJ4.out;first | omega | exact Nat.le_refl _⟩,zW⟩
    ·rw [if_neg c8] at H;have c8b0:=decide_eq_false c8;clear c8;(first | rw [c8b0] | (simp only [ZaU,Zbc];rw [c8b0]) | skip);have H':=Zaa.mk H;clear H;go_wp2;go_meet
     case rel => exact ⟨_,(x2_4),zE,H',⟨by have:=HJ4.out;first | omega | exact Nat.le_refl _⟩,zW⟩
   case rest =>
    clear HC7;obtain ⟨kq,x2_6,rfl,HA,HJ6,⟨mc6,rfl⟩⟩:=hcut
    cases kq with
    | zero => exact absurd HA.out (by simp [Zab.j1])
    | succ kj6 =>
     have H:=HA.out;clear HA;simp only [Zab.j1] at H;have HC9:=Zaa.mk H;clear H;go_upto_region 5 with (fail);go_cut [9] (fun v9 wc => ∃ (kq : Nat) (x9_8 : Bool),v9 = .bool x9_8 ∧ Zaa (Zab.j2 kq a0 a1 x2_6 x9_8 = some r) ∧ Zaa (kq ≤ kj6) ∧ ZaB w wc)
     case first =>
      have H:=HC9.out;clear HC9;by_cases c10 : a3 = true
      ·subst c10;have H1:=H;rw [if_pos rfl] at H1;clear H;have H:=H1;clear H1;replace H:=zM H;obtain ⟨t288,A110,H⟩:=H
       try dsimp only at H
       have A11:=Zaa.mk A110;clear A110;have H':=Zaa.mk H;clear H;go_wp2_with (first | (go_at_call 97;(with_reducible refine (ZaX.calls kj6 56 t288 _ A11.out).mono ?_);rintro e w' ⟨rfl,⟨nd,rfl⟩⟩));go_meet
       case rel => exact ⟨_,(decide (a1 ≥ t288)),zE,H',⟨by have:=HJ4.out;have:=HJ6.out;first | omega | exact Nat.le_refl _⟩,zW⟩
      ·replace c10:=Bool.eq_false_iff.mpr c10;subst c10;have H1:=H;rw [if_neg (show ¬ (false = true) by decide)] at H1;clear H;have H:=H1;clear H1;have H':=Zaa.mk H;clear H;go_wp2;go_meet
       case rel => exact ⟨_,(false),zE,H',⟨by have:=HJ4.out;have:=HJ6.out;first | omega | exact Nat.le_refl _⟩,zW⟩
     case rest =>
      clear HC9;obtain ⟨kq,x9_8,rfl,HA,HJ8,⟨mc8,rfl⟩⟩:=hcut
      cases kq with
      | zero => exact absurd HA.out (by simp [Zab.j2])
      | succ kj8 =>
       have H:=HA.out;clear HA;simp only [Zab.j2] at H;by_cases c12 : a1 = 0
       ·rw [if_pos c12] at H;have c12b0 : (a1 == 0) = true:=beq_iff_eq.mpr c12;have c12b1 : (a1 != 0) = false:=bne_eq_false_iff_eq.mpr c12;clear c12;replace H:=zM H;obtain ⟨t289,A130,H⟩:=H;replace H : (some t289) = some r:=H;have A13:=Zaa.mk A130;clear A130;obtain rfl:=Option.some.inj H;go_wp2_with (first | ((with_reducible refine Zaf (f:=98) rfl ?_);refine Zav (some 25) rfl rfl Tryz.func98 (by kernel_rfl) rfl #[.int .u64 0,.bool a0] rfl zL ?_;(with_reducible refine (Zbe.calls kj8 0 a0 t289 _ A13.out).mono ?_);rintro e w' ⟨rfl,⟨nd,rfl⟩⟩;refine ⟨_,rfl,?_⟩));go_ret;exact ⟨zE,zW⟩
       ·rw [if_neg c12] at H;have c12b0 : (a1 == 0) = false:=beq_eq_false_iff_ne.mpr c12;have c12b1 : (a1 != 0) = true:=bne_iff_ne.mpr c12;have HC14:=Zaa.mk H;clear H;go_upto_block 0 with (fail);go_cut [1,2] (fun v1 v2 wc => ∃ (kq : Nat) (x1_13 : Int) (x2_13 : Int),v1 = .int .u64 x1_13 ∧ v2 = .int .i64 x2_13 ∧ Zaa (Zab.j4 kq a0 x1_13 x2_13 x9_8 = some r) ∧ Zaa (kq ≤ kj8) ∧ ZaB w wc)
        case first =>
         have H:=HC14.out;clear HC14;have H':=Zaa.mk H;clear H;go_wp2;go_loopg [1,2] kj8 (fun kq v1 v2 w' => ∃ (x1_4 : Int) (x2_4 : Int),v1 = .int .u64 x1_4 ∧ v2 = .int .i64 x2_4 ∧ Zaa (Zab.l0 kq a0 x1_4 x2_4 x9_8 = some r) ∧ Zaa (kq ≤ kj8) ∧ ZaB w w')
         case atStart => exact ⟨(a1),(x2_6),zE,zE,H',⟨Nat.le_refl _⟩,zW⟩
         case round =>
          clear H';obtain ⟨x1_4,x2_4,rfl,rfl,HA,HK4,⟨m4,rfl⟩⟩:=hrel
          cases gk with
          | zero => exact absurd HA.out (by simp [Zab.l0])
          | succ k4 =>
           have H:=HA.out;clear HA;simp only [Zab.l0] at H;by_cases c15 : x1_4 < 4503599627370496
           ·rw [if_pos c15] at H;have c15b0:=decide_eq_true c15;clear c15;(first | rw [c15b0] | (simp only [ZaU,Zbc];rw [c15b0]) | skip);by_cases c16 : x2_4 > (-1074)
            ·rw [if_pos c16] at H;have c16b0 : decide ((-1074) < x2_4) = true:=decide_eq_true c16;clear c16;have H':=Zaa.mk H;clear H;go_wp2;go_roundg k4
             case measure => have:=HJ4.out;have:=HJ6.out;have:=HJ8.out;have:=HK4.out;omega
             case rel => exact ⟨(IntKind.u64.wrap (x1_4 * 2)),(wrap64 (x2_4 - 1)),zE,zE,H',⟨by have:=HJ4.out;have:=HJ6.out;have:=HJ8.out;have:=HK4.out;omega⟩,zW⟩
            ·rw [if_neg c16] at H;have c16b0 : decide ((-1074) < x2_4) = false:=decide_eq_false c16;clear c16;have H':=Zaa.mk H;clear H;go_wp2;go_meet
             case rel => exact ⟨_,(x1_4),(x2_4),zE,zE,H',⟨by have:=HJ4.out;have:=HJ6.out;have:=HJ8.out;have:=HK4.out;first | omega | exact Nat.le_refl _⟩,zW⟩
           ·rw [if_neg c15] at H;have c15b0:=decide_eq_false c15;clear c15;(first | rw [c15b0] | (simp only [ZaU,Zbc];rw [c15b0]) | skip);have H':=Zaa.mk H;clear H;go_wp2;go_meet
            case rel => exact ⟨_,(x1_4),(x2_4),zE,zE,H',⟨by have:=HJ4.out;have:=HJ6.out;have:=HJ8.out;have:=HK4.out;first | omega | exact Nat.le_refl _⟩,zW⟩
        case rest =>
         clear HC14;obtain ⟨kq,x1_13,x2_13,rfl,rfl,HA,HJ13,⟨mc13,rfl⟩⟩:=hcut
         cases kq with
         | zero => exact absurd HA.out (by simp [Zab.j4])
         | succ kj13 =>
          have H:=HA.out;clear HA;simp only [Zab.j4] at H;have H':=Zaa.mk H;clear H;go_wp2;go_loopg [1,2,10,11] kj13 (fun kq v1 v2 v10 v11 w' => ∃ (x1_5 : Int) (x2_5 : Int) (x10_5 : Bool) (x11_5 : Bool),v1 = .int .u64 x1_5 ∧ v2 = .int .i64 x2_5 ∧ v10 = .bool x10_5 ∧ v11 = .bool x11_5 ∧ Zaa (Zab.l1 kq a0 x1_5 x2_5 x10_5 x11_5 = some r) ∧ Zaa (kq ≤ kj13) ∧ ZaB w w')
          case atStart => exact ⟨(x1_13),(x2_13),(false),(x9_8),zE,zE,zE,zE,H',⟨Nat.le_refl _⟩,zW⟩
          case round =>
           clear H';obtain ⟨x1_5,x2_5,x10_5,x11_5,rfl,rfl,rfl,rfl,HA,HK5,⟨m5,rfl⟩⟩:=hrel
           cases gk with
           | zero => exact absurd HA.out (by simp [Zab.l1])
           | succ k5 =>
            have H:=HA.out;clear HA;simp only [Zab.l1] at H;have HC17:=Zaa.mk H;clear H;go_upto_region 13 with (fail);go_cut [42] (fun v42 wc => ∃ (kq : Nat) (x42_16 : Bool),v42 = .bool x42_16 ∧ Zaa (Zab.j6 kq a0 x1_5 x2_5 x10_5 x11_5 x42_16 = some r) ∧ Zaa (kq ≤ k5) ∧ ZaB w wc)
            case first =>
             have H:=HC17.out;clear HC17;by_cases c18 : x1_5 ≥ 9007199254740992
             ·rw [if_pos c18] at H;have c18b0 : decide (9007199254740992 ≤ x1_5) = true:=decide_eq_true c18;clear c18;(first | rw [c18b0] | (simp only [ZaU,Zbc];rw [c18b0]) | skip);have H':=Zaa.mk H;clear H;go_wp2;go_meet
              case rel => exact ⟨_,(true),zE,H',⟨by have:=HJ4.out;have:=HJ6.out;have:=HJ8.out;have:=HJ13.out;have:=HK5.out;first | omega | exact Nat.le_refl _⟩,zW⟩
             ·rw [if_neg c18] at H;have c18b0 : decide (9007199254740992 ≤ x1_5) = false:=decide_eq_false c18;clear c18;(first | rw [c18b0] | (simp only [ZaU,Zbc];rw [c18b0]) | skip);have H':=Zaa.mk H;clear H;go_wp2;go_meet
              case rel => exact ⟨_,(decide (x2_5 < (-1074))),zE,H',⟨by have:=HJ4.out;have:=HJ6.out;have:=HJ8.out;have:=HJ13.out;have:=HK5.out;first | omega | exact Nat.le_refl _⟩,zW⟩
            case rest =>
             clear HC17;obtain ⟨kq,x42_16,rfl,HA,HJ16,⟨mc16,rfl⟩⟩:=hcut
             cases kq with
             | zero => exact absurd HA.out (by simp [Zab.j6])
             | succ kj16 =>
              have H:=HA.out;clear HA;simp only [Zab.j6] at H;by_cases c19 : x42_16 = true
              ·subst c19;have H1:=H;rw [if_pos rfl] at H1;clear H;have H:=H1;clear H1;by_cases c20 : x11_5 = true
               ·subst c20;have H1:=H;rw [if_pos rfl] at H1;clear H;have H:=H1;clear H1;by_cases c21 : (IntKind.u64.wrap (Int.tdiv x1_5 2)) = 0
                ·rw [if_pos c21] at H;have c21b0 : ((IntKind.u64.wrap (Int.tdiv x1_5 2)) == 0) = true:=beq_iff_eq.mpr c21;have c21b1 : ((IntKind.u64.wrap (Int.tdiv x1_5 2)) != 0) = false:=bne_eq_false_iff_eq.mpr c21;clear c21;by_cases c22 : (wrap64 (x2_5 + 1)) < (-1074)
                 ·rw [if_pos c22] at H;have c22b0:=decide_eq_true c22;clear c22;have H':=Zaa.mk H;clear H;go_wp2;go_roundg kj16
                  case measure => have:=HJ4.out;have:=HJ6.out;have:=HJ8.out;have:=HJ13.out;have:=HK5.out;have:=HJ16.out;omega
                  case rel => exact ⟨(IntKind.u64.wrap (Int.tdiv x1_5 2)),((-1074)),(false),(true),zE,zE,zE,zE,H',⟨by have:=HJ4.out;have:=HJ6.out;have:=HJ8.out;have:=HJ13.out;have:=HK5.out;have:=HJ16.out;omega⟩,zW⟩
                 ·rw [if_neg c22] at H;have c22b0:=decide_eq_false c22;clear c22;have H':=Zaa.mk H;clear H;go_wp2;go_roundg kj16
                  case measure => have:=HJ4.out;have:=HJ6.out;have:=HJ8.out;have:=HJ13.out;have:=HK5.out;have:=HJ16.out;omega
                  case rel => exact ⟨(IntKind.u64.wrap (Int.tdiv x1_5 2)),(wrap64 (x2_5 + 1)),(((Int.tmod x1_5 2) == 1)),(true),zE,zE,zE,zE,H',⟨by have:=HJ4.out;have:=HJ6.out;have:=HJ8.out;have:=HJ13.out;have:=HK5.out;have:=HJ16.out;omega⟩,zW⟩
                ·rw [if_neg c21] at H;have c21b0 : ((IntKind.u64.wrap (Int.tdiv x1_5 2)) == 0) = false:=beq_eq_false_iff_ne.mpr c21;have c21b1 : ((IntKind.u64.wrap (Int.tdiv x1_5 2)) != 0) = true:=bne_iff_ne.mpr c21;have H':=Zaa.mk H;clear H;go_wp2;go_roundg kj16
                 case measure => have:=HJ4.out;have:=HJ6.out;have:=HJ8.out;have:=HJ13.out;have:=HK5.out;have:=HJ16.out;omega
                 case rel => exact ⟨(IntKind.u64.wrap (Int.tdiv x1_5 2)),(wrap64 (x2_5 + 1)),(((Int.tmod x1_5 2) == 1)),(true),zE,zE,zE,zE,H',⟨by have:=HJ4.out;have:=HJ6.out;have:=HJ8.out;have:=HJ13.out;have:=HK5.out;have:=HJ16.out;omega⟩,zW⟩
               ·replace c20:=Bool.eq_false_iff.mpr c20;subst c20;have H1:=H;rw [if_neg (show ¬ (false = true) by decide)] at H1;clear H;have H:=H1;clear H1;by_cases c23 : (IntKind.u64.wrap (Int.tdiv x1_5 2)) = 0
                ·rw [if_pos c23] at H;have c23b0 : ((IntKind.u64.wrap (Int.tdiv x1_5 2)) == 0) = true:=beq_iff_eq.mpr c23;have c23b1 : ((IntKind.u64.wrap (Int.tdiv x1_5 2)) != 0) = false:=bne_eq_false_iff_eq.mpr c23;clear c23;by_cases c24 : (wrap64 (x2_5 + 1)) < (-1074)
                 ·rw [if_pos c24] at H;have c24b0:=decide_eq_true c24;clear c24;by_cases c25 : x10_5 = true
                  ·subst c25;have H1:=H;rw [if_pos rfl] at H1;clear H;have H:=H1;clear H1;have H':=Zaa.mk H;clear H;go_wp2;go_roundg kj16
                   case measure => have:=HJ4.out;have:=HJ6.out;have:=HJ8.out;have:=HJ13.out;have:=HK5.out;have:=HJ16.out;omega
                   case rel => exact ⟨(IntKind.u64.wrap (Int.tdiv x1_5 2)),((-1074)),(false),(true),zE,zE,zE,zE,H',⟨by have:=HJ4.out;have:=HJ6.out;have:=HJ8.out;have:=HJ13.out;have:=HK5.out;have:=HJ16.out;omega⟩,zW⟩
                  ·replace c25:=Bool.eq_false_iff.mpr c25;subst c25;have H1:=H;rw [if_neg (show ¬ (false = true) by decide)] at H1;clear H;have H:=H1;clear H1;have H':=Zaa.mk H;clear H;go_wp2;go_roundg kj16
                   case measure => have:=HJ4.out;have:=HJ6.out;have:=HJ8.out;have:=HJ13.out;have:=HK5.out;have:=HJ16.out;omega
                   case rel => exact ⟨(IntKind.u64.wrap (Int.tdiv x1_5 2)),((-1074)),(false),(((Int.tmod x1_5 2) == 1)),zE,zE,zE,zE,H',⟨by have:=HJ4.out;have:=HJ6.out;have:=HJ8.out;have:=HJ13.out;have:=HK5.out;have:=HJ16.out;omega⟩,zW⟩
                 ·rw [if_neg c24] at H;have c24b0:=decide_eq_false c24;clear c24;have H':=Zaa.mk H;clear H;go_wp2;go_roundg kj16
                  case measure => have:=HJ4.out;have:=HJ6.out;have:=HJ8.out;have:=HJ13.out;have:=HK5.out;have:=HJ16.out;omega
                  case rel => exact ⟨(IntKind.u64.wrap (Int.tdiv x1_5 2)),(wrap64 (x2_5 + 1)),(((Int.tmod x1_5 2) == 1)),(x10_5),zE,zE,zE,zE,H',⟨by have:=HJ4.out;have:=HJ6.out;have:=HJ8.out;have:=HJ13.out;have:=HK5.out;have:=HJ16.out;omega⟩,zW⟩
                ·rw [if_neg c23] at H;have c23b0 : ((IntKind.u64.wrap (Int.tdiv x1_5 2)) == 0) = false:=beq_eq_false_iff_ne.mpr c23;have c23b1 : ((IntKind.u64.wrap (Int.tdiv x1_5 2)) != 0) = true:=bne_iff_ne.mpr c23;have H':=Zaa.mk H;clear H;go_wp2;go_roundg kj16
                 case measure => have:=HJ4.out;have:=HJ6.out;have:=HJ8.out;have:=HJ13.out;have:=HK5.out;have:=HJ16.out;omega
                 case rel => exact ⟨(IntKind.u64.wrap (Int.tdiv x1_5 2)),(wrap64 (x2_5 + 1)),(((Int.tmod x1_5 2) == 1)),(x10_5),zE,zE,zE,zE,H',⟨by have:=HJ4.out;have:=HJ6.out;have:=HJ8.out;have:=HJ13.out;have:=HK5.out;have:=HJ16.out;omega⟩,zW⟩
              ·replace c19:=Bool.eq_false_iff.mpr c19;subst c19;have H1:=H;rw [if_neg (show ¬ (false = true) by decide)] at H1;clear H;have H:=H1;clear H1;have HC26:=Zaa.mk H;clear H;go_upto_region 22 with (fail);go_cut [72] (fun v72 wc => ∃ (kq : Nat) (x72_25 : Bool),v72 = .bool x72_25 ∧ Zaa (Zab.j7 kq a0 x1_5 x2_5 x72_25 = some r) ∧ Zaa (kq ≤ kj16) ∧ ZaB w wc)
               case first =>
                have H:=HC26.out;clear HC26;by_cases c27 : x10_5 = true
                ·subst c27;have H1:=H;rw [if_pos rfl] at H1;clear H;have H:=H1;clear H1;by_cases c28 : x11_5 = true
                 ·subst c28;have H1:=H;rw [if_pos rfl] at H1;clear H;have H:=H1;clear H1;have H':=Zaa.mk H;clear H;go_wp2;go_meet
                  case rel => exact ⟨_,(true),zE,H',⟨by have:=HJ4.out;have:=HJ6.out;have:=HJ8.out;have:=HJ13.out;have:=HK5.out;have:=HJ16.out;first | omega | exact Nat.le_refl _⟩,zW⟩
                 ·replace c28:=Bool.eq_false_iff.mpr c28;subst c28;have H1:=H;rw [if_neg (show ¬ (false = true) by decide)] at H1;clear H;have H:=H1;clear H1;have H':=Zaa.mk H;clear H;go_wp2;go_meet
                  case rel => exact ⟨_,(((Int.tmod x1_5 2) == 1)),zE,H',⟨by have:=HJ4.out;have:=HJ6.out;have:=HJ8.out;have:=HJ13.out;have:=HK5.out;have:=HJ16.out;first | omega | exact Nat.le_refl _⟩,zW⟩
                ·replace c27:=Bool.eq_false_iff.mpr c27;subst c27;have H1:=H;rw [if_neg (show ¬ (false = true) by decide)] at H1;clear H;have H:=H1;clear H1;have H':=Zaa.mk H;clear H;go_wp2;go_meet
                 case rel => exact ⟨_,(false),zE,H',⟨by have:=HJ4.out;have:=HJ6.out;have:=HJ8.out;have:=HJ13.out;have:=HK5.out;have:=HJ16.out;first | omega | exact Nat.le_refl _⟩,zW⟩
               case rest =>
                clear HC26;obtain ⟨kq,x72_25,rfl,HA,HJ25,⟨mc25,rfl⟩⟩:=hcut
                cases kq with
                | zero => exact absurd HA.out (by simp [Zab.j7])
                | succ kj25 =>
                 have H:=HA.out;clear HA;simp only [Zab.j7] at H;have HC29:=Zaa.mk H;clear H;go_upto_if 72 with (fail);go_cut [1] (fun v1 wc => ∃ (kq : Nat) (x1_28 : Int),v1 = .int .u64 x1_28 ∧ Zaa (Zab.j8 kq a0 x1_28 x2_5 = some r) ∧ Zaa (kq ≤ kj25) ∧ ZaB w wc)
                 case first =>
                  have H:=HC29.out;clear HC29;by_cases c30 : x72_25 = true
                  ·subst c30;have H1:=H;rw [if_pos rfl] at H1;clear H;have H:=H1;clear H1;have H':=Zaa.mk H;clear H;go_wp2;go_meet
                   case rel => exact ⟨_,(IntKind.u64.wrap (x1_5 + 1)),zE,H',⟨by have:=HJ4.out;have:=HJ6.out;have:=HJ8.out;have:=HJ13.out;have:=HK5.out;have:=HJ16.out;have:=HJ25.out;first | omega | exact Nat.le_refl _⟩,zW⟩
                  ·replace c30:=Bool.eq_false_iff.mpr c30;subst c30;have H1:=H;rw [if_neg (show ¬ (false = true) by decide)] at H1;clear H;have H:=H1;clear H1;have H':=Zaa.mk H;clear H;go_wp2;go_meet
                   case rel => exact ⟨_,(x1_5),zE,H',⟨by have:=HJ4.out;have:=HJ6.out;have:=HJ8.out;have:=HJ13.out;have:=HK5.out;have:=HJ16.out;have:=HJ25.out;first | omega | exact Nat.le_refl _⟩,zW⟩
                 case rest =>
                  clear HC29;obtain ⟨kq,x1_28,rfl,HA,HJ28,⟨mc28,rfl⟩⟩:=hcut
                  cases kq with
                  | zero => exact absurd HA.out (by simp [Zab.j8])
                  | succ kj28 =>
                   have H:=HA.out;clear HA;simp only [Zab.j8] at H;have HC31:=Zaa.mk H;clear H;go_upto_if 76 with (fail);go_cut [1,2] (fun v1 v2 wc => ∃ (kq : Nat) (x1_30 : Int) (x2_30 : Int),v1 = .int .u64 x1_30 ∧ v2 = .int .i64 x2_30 ∧ Zaa (Zab.j9 kq a0 x1_30 x2_30 = some r) ∧ Zaa (kq ≤ kj28) ∧ ZaB w wc)
                   case first =>
                    have H:=HC31.out;clear HC31;by_cases c32 : x1_28 = 9007199254740992
                    ·rw [if_pos c32] at H;have c32b0 : (x1_28 == 9007199254740992) = true:=beq_iff_eq.mpr c32;have c32b1 : (x1_28 != 9007199254740992) = false:=bne_eq_false_iff_eq.mpr c32;clear c32;(first | rw [c32b0] | (simp only [ZaU,Zbc];rw [c32b0]) | skip);have H':=Zaa.mk H;clear H;go_wp2;go_meet
                     case rel => exact ⟨_,(4503599627370496),(wrap64 (x2_5 + 1)),zE,zE,H',⟨by have:=HJ4.out;have:=HJ6.out;have:=HJ8.out;have:=HJ13.out;have:=HK5.out;have:=HJ16.out;have:=HJ25.out;have:=HJ28.out;first | omega | exact Nat.le_refl _⟩,zW⟩
                    ·rw [if_neg c32] at H;have c32b0 : (x1_28 == 9007199254740992) = false:=beq_eq_false_iff_ne.mpr c32;have c32b1 : (x1_28 != 9007199254740992) = true:=bne_iff_ne.mpr c32;(first | rw [c32b0] | (simp only [ZaU,Zbc];rw [c32b0]) | skip);have H':=Zaa.mk H;clear H;go_wp2;go_meet
                     case rel => exact ⟨_,(x1_28),(x2_5),zE,zE,H',⟨by have:=HJ4.out;have:=HJ6.out;have:=HJ8.out;have:=HJ13.out;have:=HK5.out;have:=HJ16.out;have:=HJ25.out;have:=HJ28.out;first | omega | exact Nat.le_refl _⟩,zW⟩
                   case rest =>
                    clear HC31;obtain ⟨kq,x1_30,x2_30,rfl,rfl,HA,HJ30,⟨mc30,rfl⟩⟩:=hcut
                    cases kq with
                    | zero => exact absurd HA.out (by simp [Zab.j9])
                    | succ kj30 =>
                     have H:=HA.out;clear HA;simp only [Zab.j9] at H;by_cases c33 : x1_30 < 4503599627370496
                     ·rw [if_pos c33] at H;have c33b0:=decide_eq_true c33;clear c33;replace H:=zM H;obtain ⟨t290,A340,H⟩:=H;replace H : (some t290) = some r:=H;have A34:=Zaa.mk A340;clear A340;obtain rfl:=Option.some.inj H;go_wp2_with (first | ((with_reducible refine Zaf (f:=98) rfl ?_);refine Zav (some 83) rfl rfl Tryz.func98 (by kernel_rfl) rfl #[.int .u64 x1_30,.bool a0] rfl zL ?_;(with_reducible refine (Zbe.calls kj30 x1_30 a0 t290 _ A34.out).mono ?_);rintro e w' ⟨rfl,⟨nd,rfl⟩⟩;refine ⟨_,rfl,?_⟩));go_ret;exact ⟨zE,zW⟩
                     ·rw [if_neg c33] at H;have c33b0:=decide_eq_false c33;clear c33;by_cases c35 : x2_30 > 971
                      ·rw [if_pos c35] at H;have c35b0 : decide (971 < x2_30) = true:=decide_eq_true c35;clear c35;replace H:=zM H;obtain ⟨t291,A360,H⟩:=H;replace H : (some t291) = some r:=H;have A36:=Zaa.mk A360;clear A360;obtain rfl:=Option.some.inj H;go_wp2_with (first | ((with_reducible refine Zaf (f:=98) rfl ?_);refine Zav (some 87) rfl rfl Tryz.func98 (by kernel_rfl) rfl #[.int .u64 9218868437227405312,.bool a0] rfl zL ?_;(with_reducible refine (Zbe.calls kj30 9218868437227405312 a0 t291 _ A36.out).mono ?_);rintro e w' ⟨rfl,⟨nd,rfl⟩⟩;refine ⟨_,rfl,?_⟩));go_ret;exact ⟨zE,zW⟩
                      ·rw [if_neg c35] at H;have c35b0 : decide (971 < x2_30) = false:=decide_eq_false c35;clear c35;replace H:=zM H;obtain ⟨t292,A370,H⟩:=H;replace H : (some t292) = some r:=H;have A37:=Zaa.mk A370;clear A370;obtain rfl:=Option.some.inj H;go_wp2_with (first | ((with_reducible refine Zaf (f:=98) rfl ?_);refine Zav (some 96) rfl rfl Tryz.func98 (by kernel_rfl) rfl #[.int .u64 (IntKind.u64.wrap ((IntKind.u64.wrap (x1_30 - 4503599627370496)) + (IntKind.u64.wrap ((IntKind.u64.wrap (wrap64 (x2_30 + 1075))) * 4503599627370496)))),.bool a0] rfl zL ?_;(with_reducible refine (Zbe.calls kj30 (IntKind.u64.wrap ((IntKind.u64.wrap (x1_30 - 4503599627370496)) + (IntKind.u64.wrap ((IntKind.u64.wrap (wrap64 (x2_30 + 1075))) * 4503599627370496)))) a0 t292 _ A37.out).mono ?_);rintro e w' ⟨rfl,⟨nd,rfl⟩⟩;refine ⟨_,rfl,?_⟩));go_ret;exact ⟨zE,zW⟩
end Go.Proofs.YtfoekmfpcahmiabGreatDoor.MFnTokens
