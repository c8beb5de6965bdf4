-- by this session's own program mp.py over the kit's printer (tokpatch)
import Derived.Test.YtfoekmfpcahmiabGreatDoorSQMFnTokensx7
namespace Go.Proofs.YtfoekmfpcahmiabGreatDoor.MFnTokens
open Go.RowKit YtfoekmfpcahmiabGreatDoorW.PrintWords YtfoekmfpcahmiabGreatDoorW.PrintLast YtfoekmfpcahmiabGreatDoorW.PrintMore
set_option maxHeartbeats 8000000
set_option maxRecDepth 100000
attribute [local go_sem] ZbL ZbJ ZbZ ZbY Zbw Zbv ZbK ZbI
set_option linter.unusedVariables false
set_option linter.unusedSimpArgs false
mutual
def Zah.j0 : Nat → ByteArray → Int → Int → Bool → Option (Int)
 | 0,_,_,_,_ => none
 | k + 1,x0,x1,x5,x29 => if x29 = true then ((ZaD.f k x0 (wrap64 (x5 + 1))).bind fun t230 => (Zah.j1 k x0 x1 (wrap64 ((wrap64 (x5 + 1)) + t230)))) else (Zah.j1 k x0 x1 x5)
def Zah.j1 : Nat → ByteArray → Int → Int → Option (Int)
 | 0,_,_,_ => none
 | k + 1,x0,x1,x5 => if (wrap64 (x5 + 1)) < (x0.size : Int) then (if 0 ≤ x5 then (if x5 < (x0.size : Int) then (Zah.j2 k x0 x1 x5 ((bt x0 x5) == 101)) else (none)) else (none)) else (Zah.j2 k x0 x1 x5 false)
def Zah.j2 : Nat → ByteArray → Int → Int → Bool → Option (Int)
 | 0,_,_,_,_ => none
 | k + 1,x0,x1,x5,x47 => if x47 = true then (if 0 ≤ (wrap64 (x5 + 1)) then (if (wrap64 (x5 + 1)) < (x0.size : Int) then (if (bt x0 (wrap64 (x5 + 1))) = 43 then (Zah.j3 k x0 x1 x5 (wrap64 (x5 + 1)) true) else (Zah.j3 k x0 x1 x5 (wrap64 (x5 + 1)) ((bt x0 (wrap64 (x5 + 1))) == 45))) else (none)) else (none)) else (some (wrap64 (x5 - x1)))
def Zah.j3 : Nat → ByteArray → Int → Int → Int → Bool → Option (Int)
 | 0,_,_,_,_,_ => none
 | k + 1,x0,x1,x5,x6,x59 => if x59 = true then (Zah.j4 k x0 x1 x5 (wrap64 (x6 + 1))) else (Zah.j4 k x0 x1 x5 x6)
def Zah.j4 : Nat → ByteArray → Int → Int → Int → Option (Int)
 | 0,_,_,_,_ => none
 | k + 1,x0,x1,x5,x6 => if x6 < (x0.size : Int) then (if 0 ≤ x6 then ((Za1.f (bt x0 x6)).bind fun t231 => (if t231 = true then ((ZaD.f k x0 x6).bind fun t232 => (some (wrap64 ((wrap64 (x6 + t232)) - x1)))) else (some (wrap64 (x5 - x1))))) else (none)) else (some (wrap64 (x5 - x1)))
end
def Zah.f (k : Nat) (a0 : ByteArray) (a1 : Int) : Option (Int):=(ZaD.f k a0 a1).bind fun t228 => (if (wrap64 ((wrap64 (a1 + t228)) + 1)) < (a0.size : Int) then (if 0 ≤ (wrap64 (a1 + t228)) then (if (wrap64 (a1 + t228)) < (a0.size : Int) then (if (bt a0 (wrap64 (a1 + t228))) = 46 then (if 0 ≤ (wrap64 ((wrap64 (a1 + t228)) + 1)) then ((Za1.f (bt a0 (wrap64 ((wrap64 (a1 + t228)) + 1)))).bind fun t229 => (Zah.j0 k a0 a1 (wrap64 (a1 + t228)) t229)) else (none)) else (Zah.j0 k a0 a1 (wrap64 (a1 + t228)) false)) else (none)) else (none)) else (Zah.j0 k a0 a1 (wrap64 (a1 + t228)) false))
theorem Zah.calls (k : Nat) (a0 : ByteArray) (a1 : Int) (r : Int) (w : World) (h : Zah.f k a0 a1 = some r) :
  Calls Tryz.prog 32 #[.string a0,.int .i64 a1] w fun e w' => e = .returned (.int .i64 r) ∧ ZaB w w':=by
 have H : ((ZaD.f k a0 a1).bind fun t228 => (if (wrap64 ((wrap64 (a1 + t228)) + 1)) < (a0.size : Int) then (if 0 ≤ (wrap64 (a1 + t228)) then (if (wrap64 (a1 + t228)) < (a0.size : Int) then (if (bt a0 (wrap64 (a1 + t228))) = 46 then (if 0 ≤ (wrap64 ((wrap64 (a1 + t228)) + 1)) then ((Za1.f (bt a0 (wrap64 ((wrap64 (a1 + t228)) + 1)))).bind fun t229 => (Zah.j0 k a0 a1 (wrap64 (a1 + t228)) t229)) else (none)) else (Zah.j0 k a0 a1 (wrap64 (a1 + t228)) false)) else (none)) else (none)) else (Zah.j0 k a0 a1 (wrap64 (a1 + t228)) false))) = some r:=h;clear h;replace H:=zM H;obtain ⟨t228,A30,H⟩:=H
 try dsimp only at H
 have A3:=Zaa.mk A30;clear A30;have HC4:=Zaa.mk H;clear H;go_enter Tryz.func32,Tryz.ntmps32;go_upto_region 2 with (first | ((with_reducible refine Zaf (f:=51) rfl ?_);refine Zav (some 10) rfl rfl Tryz.func51 (by kernel_rfl) rfl #[.string a0,.int .i64 a1] rfl zL ?_;(with_reducible refine (ZaD.calls k a0 a1 t228 _ A3.out).mono ?_);rintro e w' ⟨rfl,⟨nd,rfl⟩⟩;refine ⟨_,rfl,?_⟩));(try simp only [Act.put,List.setIfInBounds_toArray,List.set_cons_zero,List.set_cons_succ]);go_cut [29] (fun v29 wc => ∃ (kq : Nat) (x29_3 : Bool),v29 = .bool x29_3 ∧ Zaa (Zah.j0 kq a0 a1 (wrap64 (a1 + t228)) x29_3 = some r) ∧ Zaa (kq ≤ k) ∧ ZaB w wc)
 case first =>
  have H:=HC4.out;clear HC4;by_cases c5 : (wrap64 ((wrap64 (a1 + t228)) + 1)) < (a0.size : Int)
  ·rw [if_pos c5] at H;have c5b0:=decide_eq_true c5;clear c5;(first | rw [c5b0] | (simp only [ZaU,Zbc];rw [c5b0]) | skip);obtain ⟨ji6,hji6⟩ : ∃ j_ : Int,(wrap64 (a1 + t228)) = j_:=⟨_,rfl⟩
   first | rw [hji6] at H | simp only [hji6] at H
   (try rw [hji6] at c5b0);have hji6w : (IntKind.i64.wrap (a1 + t228)) = ji6:=(ZaU _).trans hji6;(try rw [hji6] at c5b0);by_cases c7 : 0 ≤ (ji6)
   ·rw [if_pos c7] at H;have c7b0:=decide_eq_true c7;clear c7;by_cases c8 : (ji6) < (a0.size : Int)
    ·rw [if_pos c8] at H;have c8b0:=decide_eq_true c8;clear c8;by_cases c10 : (bt a0 (ji6)) = 46
     ·rw [if_pos c10] at H;have c10b0 : ((bt a0 (ji6)) == 46) = true:=beq_iff_eq.mpr c10;have c10b1 : ((bt a0 (ji6)) != 46) = false:=bne_eq_false_iff_eq.mpr c10;clear c10;obtain ⟨ji11,hji11⟩ : ∃ j_ : Int,(wrap64 ((ji6) + 1)) = j_:=⟨_,rfl⟩
      first | rw [hji11] at H | simp only [hji11] at H
      have hji11w : (IntKind.i64.wrap ((ji6) + 1)) = ji11:=(ZaU _).trans hji11;(try rw [hji11] at c5b0);by_cases c12 : 0 ≤ (ji11)
      ·rw [if_pos c12] at H;have c12b0:=decide_eq_true c12;clear c12;replace H:=zM H;obtain ⟨t229,A140,H⟩:=H;replace H : (Zah.j0 k a0 a1 ji6 t229) = some r:=H;have A14:=Zaa.mk A140;clear A140;have H':=Zaa.mk H;clear H;have p9 : 0 ≤ ((ji6) : Int):=of_decide_eq_true zA;have q9 : (ji6) < (a0.size : Int):=of_decide_eq_true zA;have hx9:=Za8 a0 (ji6);replace p9:=eq_true p9;replace q9:=eq_true q9;have p13 : 0 ≤ ((ji11) : Int):=of_decide_eq_true zA;have q13 : (ji11) < (a0.size : Int):=of_decide_eq_true zA;have hx13:=Za8 a0 (ji11);replace p13:=eq_true p13;replace q13:=eq_true q13;go_wp2_with (first | (go_at_call 31;(with_reducible refine (Za1.calls (bt a0 (ji11)) t229 _ A14.out).mono ?_);rintro e w' ⟨rfl,⟨nd,rfl⟩⟩))
       try subst hji6
       try subst hji11
       go_meet
       case rel => exact ⟨_,(t229),zE,H',⟨by first | omega | exact Nat.le_refl _⟩,zW⟩
      ·rw [if_neg c12] at H;exact absurd H (by simp)
     ·rw [if_neg c10] at H;have c10b0 : ((bt a0 (ji6)) == 46) = false:=beq_eq_false_iff_ne.mpr c10;have c10b1 : ((bt a0 (ji6)) != 46) = true:=bne_iff_ne.mpr c10;have H':=Zaa.mk H;clear H;have p9 : 0 ≤ ((ji6) : Int):=of_decide_eq_true zA;have q9 : (ji6) < (a0.size : Int):=of_decide_eq_true zA;have hx9:=Za8 a0 (ji6);replace p9:=eq_true p9;replace q9:=eq_true q9;go_wp2
      try subst hji6
      go_meet
      case rel => exact ⟨_,(false),zE,H',⟨by first | omega | exact Nat.le_refl _⟩,zW⟩
    ·rw [if_neg c8] at H;exact absurd H (by simp)
   ·rw [if_neg c7] at H;exact absurd H (by simp)
  ·rw [if_neg c5] at H;have c5b0:=decide_eq_false c5;clear c5;(first | rw [c5b0] | (simp only [ZaU,Zbc];rw [c5b0]) | skip);have H':=Zaa.mk H;clear H;go_wp2;go_meet
   case rel => exact ⟨_,(false),zE,H',⟨by first | omega | exact Nat.le_refl _⟩,zW⟩
 case rest =>
  clear HC4
  try clear hx1
  try clear hx9
  try clear hx13
  obtain ⟨kq,x29_3,rfl,HA,HJ3,⟨mc3,rfl⟩⟩:=hcut
  cases kq with
  | zero => exact absurd HA.out (by simp [Zah.j0])
  | succ kj3 =>
   have H:=HA.out;clear HA;simp only [Zah.j0] at H;have HC15:=Zaa.mk H;clear H;go_upto_if 29 with (fail);go_cut [5] (fun v5 wc => ∃ (kq : Nat) (x5_14 : Int),v5 = .int .i64 x5_14 ∧ Zaa (Zah.j1 kq a0 a1 x5_14 = some r) ∧ Zaa (kq ≤ kj3) ∧ ZaB w wc)
   case first =>
    have H:=HC15.out;clear HC15;by_cases c16 : x29_3 = true
    ·subst c16;have H1:=H;rw [if_pos rfl] at H1;clear H;have H:=H1;clear H1;replace H:=zM H;obtain ⟨t230,A170,H⟩:=H
     try dsimp only at H
     have A17:=Zaa.mk A170;clear A170;have H':=Zaa.mk H;clear H;go_wp2_with (first | ((with_reducible refine Zaf (f:=51) rfl ?_);refine Zav (some 35) rfl rfl Tryz.func51 (by kernel_rfl) rfl #[.string a0,.int .i64 (wrap64 ((wrap64 (a1 + t228)) + 1))] rfl zL ?_;(with_reducible refine (ZaD.calls kj3 a0 (wrap64 ((wrap64 (a1 + t228)) + 1)) t230 _ A17.out).mono ?_);rintro e w' ⟨rfl,⟨nd,rfl⟩⟩;refine ⟨_,rfl,?_⟩));go_meet
     case rel => exact ⟨_,(wrap64 ((wrap64 ((wrap64 (a1 + t228)) + 1)) + t230)),zE,H',⟨by have:=HJ3.out;first | omega | exact Nat.le_refl _⟩,zW⟩
    ·replace c16:=Bool.eq_false_iff.mpr c16;subst c16;have H1:=H;rw [if_neg (show ¬ (false = true) by decide)] at H1;clear H;have H:=H1;clear H1;have H':=Zaa.mk H;clear H;go_wp2;go_meet
     case rel => exact ⟨_,((wrap64 (a1 + t228))),zE,H',⟨by have:=HJ3.out;first | omega | exact Nat.le_refl _⟩,zW⟩
   case rest =>
    clear HC15
    try clear hx1
    try clear hx9
    try clear hx13
    obtain ⟨kq,x5_14,rfl,HA,HJ14,⟨mc14,rfl⟩⟩:=hcut
    cases kq with
    | zero => exact absurd HA.out (by simp [Zah.j1])
    | succ kj14 =>
     have H:=HA.out;clear HA;simp only [Zah.j1] at H;have HC18:=Zaa.mk H;clear H;go_upto_region 4 with (fail);go_cut [47] (fun v47 wc => ∃ (kq : Nat) (x47_17 : Bool),v47 = .bool x47_17 ∧ Zaa (Zah.j2 kq a0 a1 x5_14 x47_17 = some r) ∧ Zaa (kq ≤ kj14) ∧ ZaB w wc)
     case first =>
      have H:=HC18.out;clear HC18;by_cases c19 : (wrap64 (x5_14 + 1)) < (a0.size : Int)
      ·rw [if_pos c19] at H;have c19b0:=decide_eq_true c19;clear c19;(first | rw [c19b0] | (simp only [ZaU,Zbc];rw [c19b0]) | skip);by_cases c20 : 0 ≤ x5_14
       ·rw [if_pos c20] at H;have c20b0:=decide_eq_true c20;clear c20;by_cases c21 : x5_14 < (a0.size : Int)
        ·rw [if_pos c21] at H;have c21b0:=decide_eq_true c21;clear c21;have H':=Zaa.mk H;clear H;have p22 : 0 ≤ (x5_14 : Int):=of_decide_eq_true zA;have q22 : x5_14 < (a0.size : Int):=of_decide_eq_true zA;have hx22:=Za8 a0 x5_14;replace p22:=eq_true p22;replace q22:=eq_true q22;go_wp2;go_meet
         case rel => exact ⟨_,(((bt a0 x5_14) == 101)),zE,H',⟨by have:=HJ3.out;have:=HJ14.out;first | omega | exact Nat.le_refl _⟩,zW⟩
        ·rw [if_neg c21] at H;exact absurd H (by simp)
       ·rw [if_neg c20] at H;exact absurd H (by simp)
      ·rw [if_neg c19] at H;have c19b0:=decide_eq_false c19;clear c19;(first | rw [c19b0] | (simp only [ZaU,Zbc];rw [c19b0]) | skip);have H':=Zaa.mk H;clear H;go_wp2;go_meet
       case rel => exact ⟨_,(false),zE,H',⟨by have:=HJ3.out;have:=HJ14.out;first | omega | exact Nat.le_refl _⟩,zW⟩
     case rest =>
      clear HC18
      try clear hx1
      try clear hx2
      try clear hx9
      try clear hx13
      try clear hx22
      obtain ⟨kq,x47_17,rfl,HA,HJ17,⟨mc17,rfl⟩⟩:=hcut
      cases kq with
      | zero => exact absurd HA.out (by simp [Zah.j2])
      | succ kj17 =>
       have H:=HA.out;clear HA;simp only [Zah.j2] at H;by_cases c23 : x47_17 = true
       ·subst c23;have H1:=H;rw [if_pos rfl] at H1;clear H;have H:=H1;clear H1;have HC24:=Zaa.mk H;clear H;go_upto_region 6 with (fail);go_cut [59] (fun v59 wc => ∃ (kq : Nat) (x59_23 : Bool),v59 = .bool x59_23 ∧ Zaa (Zah.j3 kq a0 a1 x5_14 (wrap64 (x5_14 + 1)) x59_23 = some r) ∧ Zaa (kq ≤ kj17) ∧ ZaB w wc)
        case first =>
         have H:=HC24.out;clear HC24;obtain ⟨ji25,hji25⟩ : ∃ j_ : Int,(wrap64 (x5_14 + 1)) = j_:=⟨_,rfl⟩
         first | rw [hji25] at H | simp only [hji25] at H
         have hji25w : (IntKind.i64.wrap (x5_14 + 1)) = ji25:=(ZaU _).trans hji25;by_cases c26 : 0 ≤ (ji25)
         ·rw [if_pos c26] at H;have c26b0:=decide_eq_true c26;clear c26;(first | rw [c26b0] | (simp only [ZaU,Zbc];rw [c26b0]) | skip);by_cases c27 : (ji25) < (a0.size : Int)
          ·rw [if_pos c27] at H;have c27b0:=decide_eq_true c27;clear c27;by_cases c29 : (bt a0 (ji25)) = 43
           ·rw [if_pos c29] at H;have c29b0 : ((bt a0 (ji25)) == 43) = true:=beq_iff_eq.mpr c29;have c29b1 : ((bt a0 (ji25)) != 43) = false:=bne_eq_false_iff_eq.mpr c29;clear c29;have H':=Zaa.mk H;clear H;have p28 : 0 ≤ ((ji25) : Int):=of_decide_eq_true zA;have q28 : (ji25) < (a0.size : Int):=of_decide_eq_true zA;have hx28:=Za8 a0 (ji25);replace p28:=eq_true p28;replace q28:=eq_true q28;go_wp2
            try subst hji25
            go_meet
            case rel => exact ⟨_,(true),zE,H',⟨by have:=HJ3.out;have:=HJ14.out;have:=HJ17.out;first | omega | exact Nat.le_refl _⟩,zW⟩
           ·rw [if_neg c29] at H;have c29b0 : ((bt a0 (ji25)) == 43) = false:=beq_eq_false_iff_ne.mpr c29;have c29b1 : ((bt a0 (ji25)) != 43) = true:=bne_iff_ne.mpr c29;have H':=Zaa.mk H;clear H;have p28 : 0 ≤ ((ji25) : Int):=of_decide_eq_true zA;have q28 : (ji25) < (a0.size : Int):=of_decide_eq_true zA;have hx28:=Za8 a0 (ji25);replace p28:=eq_true p28;replace q28:=eq_true q28;have p30 : 0 ≤ ((ji25) : Int):=of_decide_eq_true zA;have q30 : (ji25) < (a0.size : Int):=of_decide_eq_true zA;have hx30:=Za8 a0 (ji25);replace p30:=eq_true p30;replace q30:=eq_true q30;go_wp2;go_meet
            case rel => exact ⟨_,(((bt a0 (ji25)) == 45)),(by first | rfl | (simp;done) | (simp only [← hji25] <;> (first | rfl | simp)) | (simp [*];done)),(by first | exact H' | (rw [hji25];exact H')),⟨by have:=HJ3.out;have:=HJ14.out;have:=HJ17.out;first | omega | exact Nat.le_refl _⟩,zW⟩
          ·rw [if_neg c27] at H;exact absurd H (by simp)
         ·rw [if_neg c26] at H;exact absurd H (by simp)
        case rest =>
         clear HC24
         try clear hx1
         try clear hx2
         try clear hx3
         try clear hx9
         try clear hx13
         try clear hx22
         try clear hx28
         try clear hx30
         obtain ⟨kq,x59_23,rfl,HA,HJ23,⟨mc23,rfl⟩⟩:=hcut
         cases kq with
         | zero => exact absurd HA.out (by simp [Zah.j3])
         | succ kj23 =>
          have H:=HA.out;clear HA;simp only [Zah.j3] at H;have HC31:=Zaa.mk H;clear H;go_upto_if 59 with (fail);go_cut [6] (fun v6 wc => ∃ (kq : Nat) (x6_30 : Int),v6 = .int .i64 x6_30 ∧ Zaa (Zah.j4 kq a0 a1 x5_14 x6_30 = some r) ∧ Zaa (kq ≤ kj23) ∧ ZaB w wc)
          case first =>
           have H:=HC31.out;clear HC31;by_cases c32 : x59_23 = true
           ·subst c32;have H1:=H;rw [if_pos rfl] at H1;clear H;have H:=H1;clear H1;have H':=Zaa.mk H;clear H;go_wp2;go_meet
            case rel => exact ⟨_,(wrap64 ((wrap64 (x5_14 + 1)) + 1)),zE,H',⟨by have:=HJ3.out;have:=HJ14.out;have:=HJ17.out;have:=HJ23.out;first | omega | exact Nat.le_refl _⟩,zW⟩
           ·replace c32:=Bool.eq_false_iff.mpr c32;subst c32;have H1:=H;rw [if_neg (show ¬ (false = true) by decide)] at H1;clear H;have H:=H1;clear H1;have H':=Zaa.mk H;clear H;go_wp2;go_meet
            case rel => exact ⟨_,((wrap64 (x5_14 + 1))),zE,H',⟨by have:=HJ3.out;have:=HJ14.out;have:=HJ17.out;have:=HJ23.out;first | omega | exact Nat.le_refl _⟩,zW⟩
          case rest =>
           clear HC31
           try clear hx1
           try clear hx2
           try clear hx3
           try clear hx9
           try clear hx13
           try clear hx22
           try clear hx28
           try clear hx30
           obtain ⟨kq,x6_30,rfl,HA,HJ30,⟨mc30,rfl⟩⟩:=hcut
           cases kq with
           | zero => exact absurd HA.out (by simp [Zah.j4])
           | succ kj30 =>
            have H:=HA.out;clear HA;simp only [Zah.j4] at H;by_cases c33 : x6_30 < (a0.size : Int)
            ·rw [if_pos c33] at H;have c33b0:=decide_eq_true c33;clear c33;by_cases c34 : 0 ≤ x6_30
             ·rw [if_pos c34] at H;have c34b0:=decide_eq_true c34;clear c34;replace H:=zM H;obtain ⟨t231,A360,H⟩:=H
              try dsimp only at H
              have A36:=Zaa.mk A360;clear A360;by_cases c37 : t231 = true
              ·subst c37;have H1:=H;rw [if_pos rfl] at H1;clear H;have H:=H1;clear H1;replace H:=zM H;obtain ⟨t232,A380,H⟩:=H
               try dsimp only at H
               have A38:=Zaa.mk A380;clear A380;obtain rfl:=Option.some.inj H;have p35 : 0 ≤ (x6_30 : Int):=of_decide_eq_true zA;have q35 : x6_30 < (a0.size : Int):=of_decide_eq_true zA;have hx35:=Za8 a0 x6_30;replace p35:=eq_true p35;replace q35:=eq_true q35;go_wp2_with (first | (go_at_call 31;(with_reducible refine (Za1.calls (bt a0 x6_30) true _ A36.out).mono ?_);rintro e w' ⟨rfl,⟨nd,rfl⟩⟩) | ((with_reducible refine Zaf (f:=51) rfl ?_);refine Zav (some 75) rfl rfl Tryz.func51 (by kernel_rfl) rfl #[.string a0,.int .i64 x6_30] rfl zL ?_;(with_reducible refine (ZaD.calls kj30 a0 x6_30 t232 _ A38.out).mono ?_);rintro e w' ⟨rfl,⟨nd,rfl⟩⟩;refine ⟨_,rfl,?_⟩));go_ret;exact ⟨zE,zW⟩
              ·replace c37:=Bool.eq_false_iff.mpr c37;subst c37;have H1:=H;rw [if_neg (show ¬ (false = true) by decide)] at H1;clear H;have H:=H1;clear H1;obtain rfl:=Option.some.inj H;have p35 : 0 ≤ (x6_30 : Int):=of_decide_eq_true zA;have q35 : x6_30 < (a0.size : Int):=of_decide_eq_true zA;have hx35:=Za8 a0 x6_30;replace p35:=eq_true p35;replace q35:=eq_true q35;go_wp2_with (first | (go_at_call 31;(with_reducible refine (Za1.calls (bt a0 x6_30) false _ A36.out).mono ?_);rintro e w' ⟨rfl,⟨nd,rfl⟩⟩));go_ret;exact ⟨zE,zW⟩
             ·rw [if_neg c34] at H;exact absurd H (by simp)
            ·rw [if_neg c33] at H;have c33b0:=decide_eq_false c33;clear c33;obtain rfl:=Option.some.inj H;go_wp2;go_ret;exact ⟨zE,zW⟩
       ·replace c23:=Bool.eq_false_iff.mpr c23;subst c23;have H1:=H;rw [if_neg (show ¬ (false = true) by decide)] at H1;clear H;have H:=H1;clear H1;obtain rfl:=Option.some.inj H;go_wp2;go_ret;exact ⟨zE,zW⟩
def Za6.f (a0 : Int) (a1 : Int) (a2 : Int) : Option (Bool):=if a0 ≥ a1 then (some (decide (a0 ≤ a2))) else (some false)
theorem Za6.calls (a0 : Int) (a1 : Int) (a2 : Int) (r : Bool) (w : World) (h : Za6.f a0 a1 a2 = some r) :
  Calls Tryz.prog 52 #[.int .i64 a0,.int .i64 a1,.int .i64 a2] w fun e w' => e = .returned (.bool r) ∧ ZaB w w':=by
 have H : (if a0 ≥ a1 then (some (decide (a0 ≤ a2))) else (some false)) = some r:=h;clear h;by_cases c4 : a0 ≥ a1
 ·rw [if_pos c4] at H;have c4b0 : decide (a1 ≤ a0) = true:=decide_eq_true c4;clear c4;obtain rfl:=Option.some.inj H;go_enter Tryz.func52,Tryz.ntmps52;go_wp2;go_ret;exact ⟨zE,zW⟩
 ·rw [if_neg c4] at H;have c4b0 : decide (a1 ≤ a0) = false:=decide_eq_false c4;clear c4;obtain rfl:=Option.some.inj H;go_enter Tryz.func52,Tryz.ntmps52;go_wp2;go_ret;exact ⟨zE,zW⟩
end Go.Proofs.YtfoekmfpcahmiabGreatDoor.MFnTokens
