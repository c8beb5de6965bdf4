-- by this session's own program mp.py over the kit's printer
import Derived.Test.YtfoekmfpcahmiabGreatDoorSQMFnTokensx34
namespace Go.Proofs.YtfoekmfpcahmiabGreatDoor.MFnTokens
open Go.RowKit YtfoekmfpcahmiabGreatDoorW.PrintWords YtfoekmfpcahmiabGreatDoorW.PrintLast YtfoekmfpcahmiabGreatDoorW.PrintMore
set_option maxHeartbeats 8000000
set_option maxRecDepth 100000
noncomputable section
attribute [local go_sem] ZbL ZbJ ZbZ ZbY Zbw Zbv ZbK ZbI
set_option linter.unusedVariables false
set_option linter.unusedSimpArgs false
mutual
def Zae.j0 : Nat → ByteArray → ByteArray → Int → Int → Bool → Option (Int × Bool)
 | 0,_,_,_,_,_ => none
 | k + 1,x0,x5,x6,x7,x31 => if x31 = true then ((Zan.f k x0 (wrap64 (x6 + 1))).bind fun t183 => ((Zax.f t183 1 30).bind fun t184 => (if t184 = true then (if 0 ≤ (wrap64 (x6 + 1)) then (if (wrap64 (x6 + 1)) ≤ (wrap64 ((wrap64 (x6 + 1)) + t183)) then (if (wrap64 ((wrap64 (x6 + 1)) + t183)) ≤ (x0.size : Int) then (if x5.size + (x0.extract ((wrap64 (x6 + 1)) : Int).toNat ((wrap64 ((wrap64 (x6 + 1)) + t183)) : Int).toNat).size ≤ 9223372036854775807 then (Zae.j1 k x0 (x5 ++ (x0.extract ((wrap64 (x6 + 1)) : Int).toNat ((wrap64 ((wrap64 (x6 + 1)) + t183)) : Int).toNat)) (wrap64 ((wrap64 (x6 + 1)) + t183)) (wrap64 (-t183))) else (none)) else (none)) else (none)) else (none)) else (some (0,false))))) else (Zae.j1 k x0 x5 x6 x7)
def Zae.j1 : Nat → ByteArray → ByteArray → Int → Int → Option (Int × Bool)
 | 0,_,_,_,_ => none
 | k + 1,x0,x5,x6,x7 => if x6 < (x0.size : Int) then (if 0 ≤ x6 then (Zae.j2 k x0 x5 x6 x7 ((bt x0 x6) == 101)) else (none)) else (Zae.j2 k x0 x5 x6 x7 false)
def Zae.j2 : Nat → ByteArray → ByteArray → Int → Int → Bool → Option (Int × Bool)
 | 0,_,_,_,_,_ => none
 | k + 1,x0,x5,x6,x7,x64 => if x64 = true then (if (wrap64 (x6 + 1)) < (x0.size : Int) then (if 0 ≤ (wrap64 (x6 + 1)) then (Zae.j3 k x0 x5 (wrap64 (x6 + 1)) x7 ((bt x0 (wrap64 (x6 + 1))) == 45)) else (none)) else (Zae.j3 k x0 x5 (wrap64 (x6 + 1)) x7 false)) else (Zae.j6 k x0 x5 x6 x7)
def Zae.j6 : Nat → ByteArray → ByteArray → Int → Int → Option (Int × Bool)
 | 0,_,_,_,_ => none
 | k + 1,x0,x5,x6,x7 => if x6 = (x0.size : Int) then ((Za7.f x5 (⟨#[48]⟩ : ByteArray)).bind fun t189 => (if t189.toList = ([] : List UInt8) then ((Zbo.f (⟨#[48]⟩ : ByteArray) x7).bind fun t190 => (some (t190,true))) else ((Zbo.f t189 x7).bind fun t191 => (some (t191,true))))) else (some (0,false))
def Zae.j3 : Nat → ByteArray → ByteArray → Int → Int → Bool → Option (Int × Bool)
 | 0,_,_,_,_,_ => none
 | k + 1,x0,x5,x6,x7,x9 => if x9 = true then (Zae.j4 k x0 x5 x6 x7 x9 true) else (if x6 < (x0.size : Int) then (if 0 ≤ x6 then (Zae.j4 k x0 x5 x6 x7 x9 ((bt x0 x6) == 43)) else (none)) else (Zae.j4 k x0 x5 x6 x7 x9 false))
def Zae.j4 : Nat → ByteArray → ByteArray → Int → Int → Bool → Bool → Option (Int × Bool)
 | 0,_,_,_,_,_,_ => none
 | k + 1,x0,x5,x6,x7,x9,x89 => if x89 = true then (Zae.j5 k x0 x5 (wrap64 (x6 + 1)) x7 x9) else (Zae.j5 k x0 x5 x6 x7 x9)
def Zae.j5 : Nat → ByteArray → ByteArray → Int → Int → Bool → Option (Int × Bool)
 | 0,_,_,_,_,_ => none
 | k + 1,x0,x5,x6,x7,x9 => (Zan.f k x0 x6).bind fun t185 => ((Zax.f t185 1 3).bind fun t186 => (if t186 = true then (if 0 ≤ x6 then (if x6 ≤ (wrap64 (x6 + t185)) then (if (wrap64 (x6 + t185)) ≤ (x0.size : Int) then ((strconv_Atoi.f (x0.extract (x6 : Int).toNat ((wrap64 (x6 + t185)) : Int).toNat)).bind fun bt187 => (if x9 = true then (Zae.j6 k x0 x5 (wrap64 (x6 + t185)) (wrap64 (x7 + (wrap64 (-bt187.1))))) else (Zae.j6 k x0 x5 (wrap64 (x6 + t185)) (wrap64 (x7 + bt187.1))))) else (none)) else (none)) else (none)) else (some (0,false))))
end
def Zae.f (k : Nat) (a0 : ByteArray) : Option (Int × Bool):=(Zan.f k a0 0).bind fun t181 => ((Zax.f t181 1 30).bind fun t182 => (if t182 = true then (if 0 ≤ t181 then (if t181 ≤ (a0.size : Int) then (if t181 < (a0.size : Int) then (Zae.j0 k a0 (a0.extract 0 (t181 : Int).toNat) t181 0 ((bt a0 t181) == 46)) else (Zae.j0 k a0 (a0.extract 0 (t181 : Int).toNat) t181 0 false)) else (none)) else (none)) else (some (0,false))))
theorem Zae.calls (k : Nat) (a0 : ByteArray) (r1 : Int) (r2 : Bool) (w : World) (hm : G.ZgJ w) (h : Zae.f k a0 = some (r1,r2)) :
  Calls Tryz.prog 24 #[.string a0] w fun e w' => e = .returned (.tuple #[.int .u64 r1,.bool r2]) ∧ Below w.heap.size w w':=by
 have HB:=Zaa.mk (Below.refl w.heap.size w);have H : ((Zan.f k a0 0).bind fun t181 => ((Zax.f t181 1 30).bind fun t182 => (if t182 = true then (if 0 ≤ t181 then (if t181 ≤ (a0.size : Int) then (if t181 < (a0.size : Int) then (Zae.j0 k a0 (a0.extract 0 (t181 : Int).toNat) t181 0 ((bt a0 t181) == 46)) else (Zae.j0 k a0 (a0.extract 0 (t181 : Int).toNat) t181 0 false)) else (none)) else (none)) else (some (0,false))))) = some (r1,r2):=h;clear h;replace H:=zM H;obtain ⟨t181,A20,H⟩:=H
 try dsimp only at H
 have A2:=Zaa.mk A20;clear A20;replace H:=zM H;obtain ⟨t182,A30,H⟩:=H
 try dsimp only at H
 have A3:=Zaa.mk A30;clear A30;by_cases c4 : t182 = true
 ·subst c4;have H1:=H;rw [if_pos rfl] at H1;clear H;have H:=H1;clear H1;by_cases c5 : 0 ≤ t181
  ·rw [if_pos c5] at H;have c5b0:=eq_true c5;have c5b1:=decide_eq_true c5;clear c5;by_cases c6 : t181 ≤ (a0.size : Int)
   ·rw [if_pos c6] at H;have c6b0:=eq_true c6;have c6b1:=decide_eq_true c6;clear c6;have HC7:=Zaa.mk H;clear H;go_enter Tryz.func24,Tryz.ntmps24;go_upto_region 5 with (first | ((with_reducible refine Zaf (f:=45) rfl ?_);refine Zav (some 14) rfl rfl Tryz.func45 (by kernel_rfl) rfl #[.string a0,.int .i64 0] rfl zL ?_;(with_reducible refine (Zan.calls k a0 0 t181 _ A2.out).mono ?_);rintro e w' ⟨rfl,⟨nd,rfl⟩⟩;refine ⟨_,rfl,?_⟩) | ((with_reducible refine Zaf (f:=46) rfl ?_);refine Zav (some 16) rfl rfl Tryz.func46 (by kernel_rfl) rfl #[.int .i64 t181,.int .i64 1,.int .i64 30] rfl zL ?_;(with_reducible refine (Zax.calls t181 1 30 true _ A3.out).mono ?_);rintro e w' ⟨rfl,⟨nd,rfl⟩⟩;refine ⟨_,rfl,?_⟩));(try simp only [Act.put,List.setIfInBounds_toArray,List.set_cons_zero,List.set_cons_succ]);go_cut [31] (fun v31 wc => ∃ (kq : Nat) (x31_6 : Bool),v31 = .bool x31_6 ∧ Zaa (Zae.j0 kq a0 (a0.extract 0 (t181 : Int).toNat) t181 0 x31_6 = some (r1,r2)) ∧ Zaa (kq ≤ k) ∧ Zaa (Below w.heap.size w wc))
    case first =>
     have H:=HC7.out;clear HC7;by_cases c8 : t181 < (a0.size : Int)
     ·rw [if_pos c8] at H;have c8b0:=decide_eq_true c8;clear c8;(first | rw [c8b0] | (simp only [ZaU,Zbc];rw [c8b0]) | skip);have H':=Zaa.mk H;clear H;have p9 : 0 ≤ (t181 : Int):=of_decide_eq_true zA;have q9 : t181 < (a0.size : Int):=of_decide_eq_true zA;have hx9:=Za8 a0 t181;replace p9:=eq_true p9;replace q9:=eq_true q9;go_wp2;go_meet
      case rel => exact ⟨_,(((bt a0 t181) == 46)),zE,H',⟨by first | omega | exact Nat.le_refl _⟩,⟨zB⟩⟩
     ·rw [if_neg c8] at H;have c8b0:=decide_eq_false c8;clear c8;(first | rw [c8b0] | (simp only [ZaU,Zbc];rw [c8b0]) | skip);have H':=Zaa.mk H;clear H;go_wp2;go_meet
      case rel => exact ⟨_,(false),zE,H',⟨by first | omega | exact Nat.le_refl _⟩,⟨zB⟩⟩
    case rest =>
     clear HC7
     try clear hx9
     obtain ⟨kq,x31_6,rfl,HA,HJ6,HB⟩:=hcut
     cases kq with
     | zero => exact absurd HA.out (by simp [Zae.j0])
     | succ kj6 =>
      have H:=HA.out;clear HA;simp only [Zae.j0] at H;have HC10:=Zaa.mk H;clear H;go_upto_if 31 with (fail);go_cut [5,6,7] (fun v5 v6 v7 wc => ∃ (kq : Nat) (x5_9 : ByteArray) (x6_9 : Int) (x7_9 : Int),v5 = .string x5_9 ∧ v6 = .int .i64 x6_9 ∧ v7 = .int .i64 x7_9 ∧ Zaa (Zae.j1 kq a0 x5_9 x6_9 x7_9 = some (r1,r2)) ∧ Zaa (kq ≤ kj6) ∧ Zaa (Below w.heap.size w wc))
      case first =>
       have H:=HC10.out;clear HC10;by_cases c11 : x31_6 = true
       ·subst c11;have H1:=H;rw [if_pos rfl] at H1;clear H;have H:=H1;clear H1;replace H:=zM H;obtain ⟨t183,A120,H⟩:=H
        try dsimp only at H
        have A12:=Zaa.mk A120;clear A120;replace H:=zM H;obtain ⟨t184,A130,H⟩:=H
        try dsimp only at H
        have A13:=Zaa.mk A130;clear A130;by_cases c14 : t184 = true
        ·subst c14;have H1:=H;rw [if_pos rfl] at H1;clear H;have H:=H1;clear H1;obtain ⟨ji15,hji15⟩ : ∃ j_ : Int,(wrap64 (t181 + 1)) = j_:=⟨_,rfl⟩
         first | rw [hji15] at H | simp only [hji15] at H
         (try rw [hji15] at A12);(try rw [hji15] at A13);have hji15w : (IntKind.i64.wrap (t181 + 1)) = ji15:=(ZaU _).trans hji15;by_cases c16 : 0 ≤ (ji15)
         ·rw [if_pos c16] at H;have c16b0:=eq_true c16;have c16b1:=decide_eq_true c16;clear c16;by_cases c17 : (ji15) ≤ (wrap64 ((ji15) + t183))
          ·rw [if_pos c17] at H;have c17b0:=eq_true c17;have c17b1:=decide_eq_true c17;by_cases c18 : (wrap64 ((ji15) + t183)) ≤ (a0.size : Int)
           ·rw [if_pos c18] at H;have c18b0:=eq_true c18;have c18b1:=decide_eq_true c18;by_cases c19 : (a0.extract 0 (t181 : Int).toNat).size + (a0.extract ((ji15) : Int).toNat ((wrap64 ((ji15) + t183)) : Int).toNat).size ≤ 9223372036854775807
            ·rw [if_pos c19] at H;have c19b0:=eq_true c19;have c19b1:=decide_eq_true c19
             try have c19b2 : (9223372036854775807 < (a0.extract 0 (t181 : Int).toNat).size + (a0.extract ((ji15) : Int).toNat ((wrap64 ((ji15) + t183)) : Int).toNat).size) = False:=eq_false (Nat.not_lt.2 c19)
             try (have c19x0:=c19b0;have c19x1:=c19b1;have c19x2:=c19b2;simp only [ByteArray.size_append,ByteArray.size_extract,Nat.min_self,Nat.sub_zero] at c19x0 c19x1 c19x2)
             try (have hmin : min (t181 : Int).toNat a0.size = (t181 : Int).toNat:=(by have h1:=of_decide_eq_true (by assumption : decide (t181 ≤ (a0.size : Int)) = true);omega);have c19y0:=c19x0;have c19y1:=c19x1;have c19y2:=c19x2;simp only [hmin] at c19y0 c19y1 c19y2)
             have H':=Zaa.mk H;clear H;go_wp2_with (first | ((with_reducible refine Zaf (f:=45) rfl ?_);refine Zav (some 35) rfl rfl Tryz.func45 (by kernel_rfl) rfl #[.string a0,.int .i64 ji15] rfl (by (try simp only [List.map_toArray,List.map_cons,List.map_nil]);first | done | (simp only [hji15];rfl) | rfl | (simp only [List.length_drop,List.length_take];rfl)) ?_;(with_reducible refine (Zan.calls kj6 a0 ji15 t183 _ A12.out).mono ?_);rintro e w' ⟨rfl,⟨nd,rfl⟩⟩;refine ⟨_,rfl,?_⟩) | ((with_reducible refine Zaf (f:=46) rfl ?_);refine Zav (some 37) rfl rfl Tryz.func46 (by kernel_rfl) rfl #[.int .i64 t183,.int .i64 1,.int .i64 30] rfl zL ?_;(with_reducible refine (Zax.calls t183 1 30 true _ A13.out).mono ?_);rintro e w' ⟨rfl,⟨nd,rfl⟩⟩;refine ⟨_,rfl,?_⟩));go_meet
             case rel => exact ⟨_,((a0.extract 0 (t181 : Int).toNat) ++ (a0.extract ((ji15) : Int).toNat ((wrap64 ((ji15) + t183)) : Int).toNat)),(wrap64 ((ji15) + t183)),(wrap64 (-t183)),(by first | rfl | (simp;done) | (simp only [← hji15] <;> (first | rfl | simp)) | (simp [*];done)),(by first | rfl | (simp;done) | (simp only [← hji15] <;> (first | rfl | simp)) | (simp [*];done)),zE,(by first | exact H' | (rw [hji15];exact H')),⟨by have:=HJ6.out;first | omega | exact Nat.le_refl _⟩,⟨zB⟩⟩
            ·rw [if_neg c19] at H;exact absurd H (by simp)
           ·rw [if_neg c18] at H;exact absurd H (by simp)
          ·rw [if_neg c17] at H;exact absurd H (by simp)
         ·rw [if_neg c16] at H;exact absurd H (by simp)
        ·replace c14:=Bool.eq_false_iff.mpr c14;subst c14;(have H1 : (some (0,false)) = some (r1,r2):=by rw [if_neg (show ¬ (false = true) by decide)] at H;exact H);clear H;have H:=H1;clear H1;simp only [Option.some.injEq,Prod.mk.injEq] at H;obtain ⟨rfl,rfl⟩:=H;go_wp2_with (first | ((with_reducible refine Zaf (f:=45) rfl ?_);refine Zav (some 35) rfl rfl Tryz.func45 (by kernel_rfl) rfl #[.string a0,.int .i64 (wrap64 (t181 + 1))] rfl zL ?_;(with_reducible refine (Zan.calls kj6 a0 (wrap64 (t181 + 1)) t183 _ A12.out).mono ?_);rintro e w' ⟨rfl,⟨nd,rfl⟩⟩;refine ⟨_,rfl,?_⟩) | ((with_reducible refine Zaf (f:=46) rfl ?_);refine Zav (some 37) rfl rfl Tryz.func46 (by kernel_rfl) rfl #[.int .i64 t183,.int .i64 1,.int .i64 30] rfl zL ?_;(with_reducible refine (Zax.calls t183 1 30 false _ A13.out).mono ?_);rintro e w' ⟨rfl,⟨nd,rfl⟩⟩;refine ⟨_,rfl,?_⟩));go_ret2;exact ⟨zF,zB⟩
       ·replace c11:=Bool.eq_false_iff.mpr c11;subst c11;have H1:=H;rw [if_neg (show ¬ (false = true) by decide)] at H1;clear H;have H:=H1;clear H1;have H':=Zaa.mk H;clear H;go_wp2;go_meet
        case rel => exact ⟨_,((a0.extract 0 (t181 : Int).toNat)),(t181),(0),zE,zE,zE,H',⟨by have:=HJ6.out;first | omega | exact Nat.le_refl _⟩,⟨zB⟩⟩
      case rest =>
       clear HC10
       try clear hx9
       obtain ⟨kq,x5_9,x6_9,x7_9,rfl,rfl,rfl,HA,HJ9,HB⟩:=hcut
       cases kq with
       | zero => exact absurd HA.out (by simp [Zae.j1])
       | succ kj9 =>
        have H:=HA.out;clear HA;simp only [Zae.j1] at H;have HC20:=Zaa.mk H;clear H;go_upto_region 12 with (fail);go_cut [64] (fun v64 wc => ∃ (kq : Nat) (x64_19 : Bool),v64 = .bool x64_19 ∧ Zaa (Zae.j2 kq a0 x5_9 x6_9 x7_9 x64_19 = some (r1,r2)) ∧ Zaa (kq ≤ kj9) ∧ Zaa (Below w.heap.size w wc))
        case first =>
         have H:=HC20.out;clear HC20;by_cases c21 : x6_9 < (a0.size : Int)
         ·rw [if_pos c21] at H;have c21b0:=decide_eq_true c21;clear c21;(first | rw [c21b0] | (simp only [ZaU,Zbc];rw [c21b0]) | skip);by_cases c22 : 0 ≤ x6_9
          ·rw [if_pos c22] at H;have c22b0:=decide_eq_true c22;clear c22;have H':=Zaa.mk H;clear H;have p23 : 0 ≤ (x6_9 : Int):=of_decide_eq_true zA;have q23 : x6_9 < (a0.size : Int):=of_decide_eq_true zA;have hx23:=Za8 a0 x6_9;replace p23:=eq_true p23;replace q23:=eq_true q23;go_wp2;go_meet
           case rel => exact ⟨_,(((bt a0 x6_9) == 101)),zE,H',⟨by have:=HJ6.out;have:=HJ9.out;first | omega | exact Nat.le_refl _⟩,⟨zB⟩⟩
          ·rw [if_neg c22] at H;exact absurd H (by simp)
         ·rw [if_neg c21] at H;have c21b0:=decide_eq_false c21;clear c21;(first | rw [c21b0] | (simp only [ZaU,Zbc];rw [c21b0]) | skip);have H':=Zaa.mk H;clear H;go_wp2;go_meet
          case rel => exact ⟨_,(false),zE,H',⟨by have:=HJ6.out;have:=HJ9.out;first | omega | exact Nat.le_refl _⟩,⟨zB⟩⟩
        case rest =>
         clear HC20
         try clear hx2
         try clear hx9
         try clear hx23
         obtain ⟨kq,x64_19,rfl,HA,HJ19,HB⟩:=hcut
         cases kq with
         | zero => exact absurd HA.out (by simp [Zae.j2])
         | succ kj19 =>
          have H:=HA.out;clear HA;simp only [Zae.j2] at H;have HC24:=Zaa.mk H;clear H;go_upto_if 64 with (fail);go_cut [6,7] (fun v6 v7 wc => ∃ (kq : Nat) (x6_23 : Int) (x7_23 : Int),v6 = .int .i64 x6_23 ∧ v7 = .int .i64 x7_23 ∧ Zaa (Zae.j6 kq a0 x5_9 x6_23 x7_23 = some (r1,r2)) ∧ Zaa (kq ≤ kj19) ∧ Zaa (Below w.heap.size w wc))
          case first =>
           have H:=HC24.out;clear HC24;by_cases c25 : x64_19 = true
           ·subst c25;have H1:=H;rw [if_pos rfl] at H1;clear H;have H:=H1;clear H1;have HC26:=Zaa.mk H;clear H;go_upto_region 14 with (fail);go_cut [9] (fun v9 wc => ∃ (kq : Nat) (x9_25 : Bool),v9 = .bool x9_25 ∧ Zaa (Zae.j3 kq a0 x5_9 (wrap64 (x6_9 + 1)) x7_9 x9_25 = some (r1,r2)) ∧ Zaa (kq ≤ kj19) ∧ Zaa (Below w.heap.size w wc))
            case first =>
             have H:=HC26.out;clear HC26;by_cases c27 : (wrap64 (x6_9 + 1)) < (a0.size : Int)
             ·rw [if_pos c27] at H;have c27b0:=decide_eq_true c27;clear c27;(first | rw [c27b0] | (simp only [ZaU,Zbc];rw [c27b0]) | skip);obtain ⟨ji28,hji28⟩ : ∃ j_ : Int,(wrap64 (x6_9 + 1)) = j_:=⟨_,rfl⟩
              first | rw [hji28] at H | simp only [hji28] at H
              (try rw [hji28] at c27b0);have hji28w : (IntKind.i64.wrap (x6_9 + 1)) = ji28:=(ZaU _).trans hji28;by_cases c29 : 0 ≤ (ji28)
              ·rw [if_pos c29] at H;have c29b0:=decide_eq_true c29;clear c29;have H':=Zaa.mk H;clear H;have p30 : 0 ≤ ((ji28) : Int):=of_decide_eq_true zA;have q30 : (ji28) < (a0.size : Int):=of_decide_eq_true zA;have hx30:=Za8 a0 (ji28);replace p30:=eq_true p30;replace q30:=eq_true q30;go_wp2;go_meet
               case rel => exact ⟨_,(((bt a0 (ji28)) == 45)),(by first | rfl | (simp;done) | (simp only [← hji28] <;> (first | rfl | simp)) | (simp [*];done)),(by first | exact H' | (rw [hji28];exact H')),⟨by have:=HJ6.out;have:=HJ9.out;have:=HJ19.out;first | omega | exact Nat.le_refl _⟩,⟨zB⟩⟩
              ·rw [if_neg c29] at H;exact absurd H (by simp)
             ·rw [if_neg c27] at H;have c27b0:=decide_eq_false c27;clear c27;(first | rw [c27b0] | (simp only [ZaU,Zbc];rw [c27b0]) | skip);have H':=Zaa.mk H;clear H;go_wp2;go_meet
              case rel => exact ⟨_,(false),zE,H',⟨by have:=HJ6.out;have:=HJ9.out;have:=HJ19.out;first | omega | exact Nat.le_refl _⟩,⟨zB⟩⟩
            case rest =>
             clear HC26
             try clear hx2
             try clear hx3
             try clear hx9
             try clear hx23
             try clear hx30
             obtain ⟨kq,x9_25,rfl,HA,HJ25,HB⟩:=hcut
             cases kq with
             | zero => exact absurd HA.out (by simp [Zae.j3])
             | succ kj25 =>
              have H:=HA.out;clear HA;simp only [Zae.j3] at H;have HC31:=Zaa.mk H;clear H;go_upto_region 15 with (fail);go_cut [89] (fun v89 wc => ∃ (kq : Nat) (x89_30 : Bool),v89 = .bool x89_30 ∧ Zaa (Zae.j4 kq a0 x5_9 (wrap64 (x6_9 + 1)) x7_9 x9_25 x89_30 = some (r1,r2)) ∧ Zaa (kq ≤ kj25) ∧ Zaa (Below w.heap.size w wc))
              case first =>
               have H:=HC31.out;clear HC31;by_cases c32 : x9_25 = true
               ·subst c32;have H1:=H;rw [if_pos rfl] at H1;clear H;have H:=H1;clear H1;have H':=Zaa.mk H;clear H;go_wp2;go_meet
                case rel => exact ⟨_,(true),zE,H',⟨by have:=HJ6.out;have:=HJ9.out;have:=HJ19.out;have:=HJ25.out;first | omega | exact Nat.le_refl _⟩,⟨zB⟩⟩
               ·replace c32:=Bool.eq_false_iff.mpr c32;subst c32;have H1:=H;rw [if_neg (show ¬ (false = true) by decide)] at H1;clear H;have H:=H1;clear H1;by_cases c33 : (wrap64 (x6_9 + 1)) < (a0.size : Int)
                ·rw [if_pos c33] at H;have c33b0:=decide_eq_true c33;clear c33;(first | rw [c33b0] | (simp only [ZaU,Zbc];rw [c33b0]) | skip);obtain ⟨ji34,hji34⟩ : ∃ j_ : Int,(wrap64 (x6_9 + 1)) = j_:=⟨_,rfl⟩
                 first | rw [hji34] at H | simp only [hji34] at H
                 (try rw [hji34] at c33b0);have hji34w : (IntKind.i64.wrap (x6_9 + 1)) = ji34:=(ZaU _).trans hji34;by_cases c35 : 0 ≤ (ji34)
                 ·rw [if_pos c35] at H;have c35b0:=decide_eq_true c35;clear c35;have H':=Zaa.mk H;clear H;have p36 : 0 ≤ ((ji34) : Int):=of_decide_eq_true zA;have q36 : (ji34) < (a0.size : Int):=of_decide_eq_true zA;have hx36:=Za8 a0 (ji34);replace p36:=eq_true p36;replace q36:=eq_true q36;go_wp2;go_meet
                  case rel => exact ⟨_,(((bt a0 (ji34)) == 43)),(by first | rfl | (simp;done) | (simp only [← hji34] <;> (first | rfl | simp)) | (simp [*];done)),(by first | exact H' | (rw [hji34];exact H')),⟨by have:=HJ6.out;have:=HJ9.out;have:=HJ19.out;have:=HJ25.out;first | omega | exact Nat.le_refl _⟩,⟨zB⟩⟩
                 ·rw [if_neg c35] at H;exact absurd H (by simp)
                ·rw [if_neg c33] at H;have c33b0:=decide_eq_false c33;clear c33;(first | rw [c33b0] | (simp only [ZaU,Zbc];rw [c33b0]) | skip);have H':=Zaa.mk H;clear H;go_wp2;go_meet
                 case rel => exact ⟨_,(false),zE,H',⟨by have:=HJ6.out;have:=HJ9.out;have:=HJ19.out;have:=HJ25.out;first | omega | exact Nat.le_refl _⟩,⟨zB⟩⟩
              case rest =>
               clear HC31
               try clear hx2
               try clear hx3
               try clear hx9
               try clear hx23
               try clear hx30
               try clear hx36
               obtain ⟨kq,x89_30,rfl,HA,HJ30,HB⟩:=hcut
               cases kq with
               | zero => exact absurd HA.out (by simp [Zae.j4])
               | succ kj30 =>
                have H:=HA.out;clear HA;simp only [Zae.j4] at H;have HC37:=Zaa.mk H;clear H;go_upto_if 89 with (fail);go_cut [6] (fun v6 wc => ∃ (kq : Nat) (x6_36 : Int),v6 = .int .i64 x6_36 ∧ Zaa (Zae.j5 kq a0 x5_9 x6_36 x7_9 x9_25 = some (r1,r2)) ∧ Zaa (kq ≤ kj30) ∧ Zaa (Below w.heap.size w wc))
                case first =>
                 have H:=HC37.out;clear HC37;by_cases c38 : x89_30 = true
                 ·subst c38;have H1:=H;rw [if_pos rfl] at H1;clear H;have H:=H1;clear H1;have H':=Zaa.mk H;clear H;go_wp2;go_meet
                  case rel => exact ⟨_,(wrap64 ((wrap64 (x6_9 + 1)) + 1)),zE,H',⟨by have:=HJ6.out;have:=HJ9.out;have:=HJ19.out;have:=HJ25.out;have:=HJ30.out;first | omega | exact Nat.le_refl _⟩,⟨zB⟩⟩
                 ·replace c38:=Bool.eq_false_iff.mpr c38;subst c38;have H1:=H;rw [if_neg (show ¬ (false = true) by decide)] at H1;clear H;have H:=H1;clear H1;have H':=Zaa.mk H;clear H;go_wp2;go_meet
                  case rel => exact ⟨_,((wrap64 (x6_9 + 1))),zE,H',⟨by have:=HJ6.out;have:=HJ9.out;have:=HJ19.out;have:=HJ25.out;have:=HJ30.out;first | omega | exact Nat.le_refl _⟩,⟨zB⟩⟩
                case rest =>
                 clear HC37
                 try clear hx2
                 try clear hx3
                 try clear hx9
                 try clear hx23
                 try clear hx30
                 try clear hx36
                 obtain ⟨kq,x6_36,rfl,HA,HJ36,HB⟩:=hcut
                 cases kq with
                 | zero => exact absurd HA.out (by simp [Zae.j5])
                 | succ kj36 =>
                  have H:=HA.out;clear HA;simp only [Zae.j5] at H;replace H:=zM H;obtain ⟨t185,A390,H⟩:=H
                  try dsimp only at H
                  have A39:=Zaa.mk A390;clear A390;replace H:=zM H;obtain ⟨t186,A400,H⟩:=H
                  try dsimp only at H
                  have A40:=Zaa.mk A400;clear A400;by_cases c41 : t186 = true
                  ·subst c41;have H1:=H;rw [if_pos rfl] at H1;clear H;have H:=H1;clear H1;by_cases c42 : 0 ≤ x6_36
                   ·rw [if_pos c42] at H;have c42b0:=eq_true c42;have c42b1:=decide_eq_true c42;clear c42;by_cases c43 : x6_36 ≤ (wrap64 (x6_36 + t185))
                    ·rw [if_pos c43] at H;have c43b0:=eq_true c43;have c43b1:=decide_eq_true c43;by_cases c44 : (wrap64 (x6_36 + t185)) ≤ (a0.size : Int)
                     ·rw [if_pos c44] at H;have c44b0:=eq_true c44;have c44b1:=decide_eq_true c44;replace H:=zM H;obtain ⟨⟨t187,t188⟩,A450,H⟩:=H
                      try dsimp only at H
                      have A45:=Zaa.mk A450;clear A450;by_cases c46 : x9_25 = true
                      ·subst c46;have H1:=H;rw [if_pos rfl] at H1;clear H;have H:=H1;clear H1;have H':=Zaa.mk H;clear H;go_wp2_with (first | ((with_reducible refine Zaf (f:=45) rfl ?_);refine Zav (some 94) rfl rfl Tryz.func45 (by kernel_rfl) rfl #[.string a0,.int .i64 x6_36] rfl zL ?_;(with_reducible refine (Zan.calls kj36 a0 x6_36 t185 _ A39.out).mono ?_);rintro e w' ⟨rfl,⟨nd,rfl⟩⟩;refine ⟨_,rfl,?_⟩) | ((with_reducible refine Zaf (f:=46) rfl ?_);refine Zav (some 96) rfl rfl Tryz.func46 (by kernel_rfl) rfl #[.int .i64 t185,.int .i64 1,.int .i64 3] rfl zL ?_;(with_reducible refine (Zax.calls t185 1 3 true _ A40.out).mono ?_);rintro e w' ⟨rfl,⟨nd,rfl⟩⟩;refine ⟨_,rfl,?_⟩) | ((with_reducible refine Zaf (f:=47) rfl ?_);refine Zav (some 105) rfl rfl Tryz.func47 (by kernel_rfl) rfl #[.string (a0.extract (x6_36 : Int).toNat ((wrap64 (x6_36 + t185)) : Int).toNat)] rfl zL ?_;(with_reducible refine (strconv_Atoi.calls (a0.extract (x6_36 : Int).toNat ((wrap64 (x6_36 + t185)) : Int).toNat) t187 t188 _ A45.out).mono ?_);rintro e w47 ⟨rfl,hb⟩;refine ⟨_,rfl,?_⟩;replace HB:=Zaa.mk (Zao zB hb);(try clear hb);(try simp only [ZaF,ZaE])));go_meet
                       case rel => exact ⟨_,(wrap64 (x6_36 + t185)),(wrap64 (x7_9 + (wrap64 (-t187)))),zE,zE,H',⟨by have:=HJ6.out;have:=HJ9.out;have:=HJ19.out;have:=HJ25.out;have:=HJ30.out;have:=HJ36.out;first | omega | exact Nat.le_refl _⟩,⟨zB⟩⟩
                      ·replace c46:=Bool.eq_false_iff.mpr c46;subst c46;have H1:=H;rw [if_neg (show ¬ (false = true) by decide)] at H1;clear H;have H:=H1;clear H1;have H':=Zaa.mk H;clear H;go_wp2_with (first | ((with_reducible refine Zaf (f:=45) rfl ?_);refine Zav (some 94) rfl rfl Tryz.func45 (by kernel_rfl) rfl #[.string a0,.int .i64 x6_36] rfl zL ?_;(with_reducible refine (Zan.calls kj36 a0 x6_36 t185 _ A39.out).mono ?_);rintro e w' ⟨rfl,⟨nd,rfl⟩⟩;refine ⟨_,rfl,?_⟩) | ((with_reducible refine Zaf (f:=46) rfl ?_);refine Zav (some 96) rfl rfl Tryz.func46 (by kernel_rfl) rfl #[.int .i64 t185,.int .i64 1,.int .i64 3] rfl zL ?_;(with_reducible refine (Zax.calls t185 1 3 true _ A40.out).mono ?_);rintro e w' ⟨rfl,⟨nd,rfl⟩⟩;refine ⟨_,rfl,?_⟩) | ((with_reducible refine Zaf (f:=47) rfl ?_);refine Zav (some 105) rfl rfl Tryz.func47 (by kernel_rfl) rfl #[.string (a0.extract (x6_36 : Int).toNat ((wrap64 (x6_36 + t185)) : Int).toNat)] rfl zL ?_;(with_reducible refine (strconv_Atoi.calls (a0.extract (x6_36 : Int).toNat ((wrap64 (x6_36 + t185)) : Int).toNat) t187 t188 _ A45.out).mono ?_);rintro e w48 ⟨rfl,hb⟩;refine ⟨_,rfl,?_⟩;replace HB:=Zaa.mk (Zao zB hb);(try clear hb);(try simp only [ZaF,ZaE])));go_meet
                       case rel => exact ⟨_,(wrap64 (x6_36 + t185)),(wrap64 (x7_9 + t187)),zE,zE,H',⟨by have:=HJ6.out;have:=HJ9.out;have:=HJ19.out;have:=HJ25.out;have:=HJ30.out;have:=HJ36.out;first | omega | exact Nat.le_refl _⟩,⟨zB⟩⟩
                     ·rw [if_neg c44] at H;exact absurd H (by simp)
                    ·rw [if_neg c43] at H;exact absurd H (by simp)
                   ·rw [if_neg c42] at H;exact absurd H (by simp)
                  ·replace c41:=Bool.eq_false_iff.mpr c41;subst c41;(have H1 : (some (0,false)) = some (r1,r2):=by rw [if_neg (show ¬ (false = true) by decide)] at H;exact H);clear H;have H:=H1;clear H1;simp only [Option.some.injEq,Prod.mk.injEq] at H;obtain ⟨rfl,rfl⟩:=H;go_wp2_with (first | ((with_reducible refine Zaf (f:=45) rfl ?_);refine Zav (some 94) rfl rfl Tryz.func45 (by kernel_rfl) rfl #[.string a0,.int .i64 x6_36] rfl zL ?_;(with_reducible refine (Zan.calls kj36 a0 x6_36 t185 _ A39.out).mono ?_);rintro e w' ⟨rfl,⟨nd,rfl⟩⟩;refine ⟨_,rfl,?_⟩) | ((with_reducible refine Zaf (f:=46) rfl ?_);refine Zav (some 96) rfl rfl Tryz.func46 (by kernel_rfl) rfl #[.int .i64 t185,.int .i64 1,.int .i64 3] rfl zL ?_;(with_reducible refine (Zax.calls t185 1 3 false _ A40.out).mono ?_);rintro e w' ⟨rfl,⟨nd,rfl⟩⟩;refine ⟨_,rfl,?_⟩));go_ret2;exact ⟨zF,zB⟩
           ·replace c25:=Bool.eq_false_iff.mpr c25;subst c25;have H1:=H;rw [if_neg (show ¬ (false = true) by decide)] at H1;clear H;have H:=H1;clear H1;have H':=Zaa.mk H;clear H;go_wp2;go_meet
            case rel => exact ⟨_,(x6_9),(x7_9),zE,zE,H',⟨by have:=HJ6.out;have:=HJ9.out;have:=HJ19.out;first | omega | exact Nat.le_refl _⟩,⟨zB⟩⟩
          case rest =>
           clear HC24
           try clear hx2
           try clear hx3
           try clear hx9
           try clear hx23
           try clear hx30
           try clear hx36
           obtain ⟨kq,x6_23,x7_23,rfl,rfl,HA,HJ23,HB⟩:=hcut
           cases kq with
           | zero => exact absurd HA.out (by simp [Zae.j6])
           | succ kj23 =>
            have H:=HA.out;clear HA;simp only [Zae.j6] at H;by_cases c49 : x6_23 = (a0.size : Int)
            ·rw [if_pos c49] at H;have c49b0 : (x6_23 == (a0.size : Int)) = true:=beq_iff_eq.mpr c49;have c49b1 : (x6_23 != (a0.size : Int)) = false:=bne_eq_false_iff_eq.mpr c49;clear c49;replace H:=zM H;obtain ⟨t189,A500,H⟩:=H
             try dsimp only at H
             have A50:=Zaa.mk A500;clear A500;by_cases c51 : t189.toList = ([] : List UInt8)
             ·rw [if_pos c51] at H;have c51b0 : (t189.toList == ([] : List UInt8)) = true:=beq_iff_eq.mpr c51;have c51b1 : (t189.toList != ([] : List UInt8)) = false:=bne_eq_false_iff_eq.mpr c51;clear c51;replace H:=zM H;obtain ⟨t190,A520,H⟩:=H;replace H : (some (t190,true)) = some (r1,r2):=H;have A52:=Zaa.mk A520;clear A520;simp only [Option.some.injEq,Prod.mk.injEq] at H;obtain ⟨rfl,rfl⟩:=H;go_wp2_with (first | ((with_reducible refine Zaf (f:=48) rfl ?_);refine Zav (some 122) rfl rfl Tryz.func48 (by kernel_rfl) rfl #[.string x5_9,.string (⟨#[48]⟩ : ByteArray)] rfl zL ?_;(with_reducible refine (Za7.calls x5_9 (⟨#[48]⟩ : ByteArray) t189 _ A50.out).mono ?_);rintro e w53 ⟨rfl,hb⟩;refine ⟨_,rfl,?_⟩;replace HB:=Zaa.mk (Zao zB hb);(try clear hb)) | ((with_reducible refine Zaf (f:=49) rfl ?_);refine Zav (some 127) rfl rfl Tryz.func49 (by kernel_rfl) rfl #[.string (⟨#[48]⟩ : ByteArray),.int .i64 x7_23] rfl zL ?_;(with_reducible refine (Zbo.calls (⟨#[48]⟩ : ByteArray) x7_23 t190 _ (hm.below zC) A52.out).mono ?_);rintro e w54 ⟨rfl,hb⟩;refine ⟨_,rfl,?_⟩;replace HB:=Zaa.mk (Zao zB hb);(try clear hb)));go_ret2;exact ⟨zF,zB⟩
             ·rw [if_neg c51] at H;have c51b0 : (t189.toList == ([] : List UInt8)) = false:=beq_eq_false_iff_ne.mpr c51;have c51b1 : (t189.toList != ([] : List UInt8)) = true:=bne_iff_ne.mpr c51;replace H:=zM H;obtain ⟨t191,A550,H⟩:=H;replace H : (some (t191,true)) = some (r1,r2):=H;have A55:=Zaa.mk A550;clear A550;simp only [Option.some.injEq,Prod.mk.injEq] at H;obtain ⟨rfl,rfl⟩:=H;go_wp2_with (first | ((with_reducible refine Zaf (f:=48) rfl ?_);refine Zav (some 122) rfl rfl Tryz.func48 (by kernel_rfl) rfl #[.string x5_9,.string (⟨#[48]⟩ : ByteArray)] rfl zL ?_;(with_reducible refine (Za7.calls x5_9 (⟨#[48]⟩ : ByteArray) t189 _ A50.out).mono ?_);rintro e w56 ⟨rfl,hb⟩;refine ⟨_,rfl,?_⟩;replace HB:=Zaa.mk (Zao zB hb);(try clear hb)) | ((with_reducible refine Zaf (f:=49) rfl ?_);refine Zav (some 127) rfl rfl Tryz.func49 (by kernel_rfl) rfl #[.string t189,.int .i64 x7_23] rfl zL ?_;(with_reducible refine (Zbo.calls t189 x7_23 t191 _ (hm.below zC) A55.out).mono ?_);rintro e w57 ⟨rfl,hb⟩;refine ⟨_,rfl,?_⟩;replace HB:=Zaa.mk (Zao zB hb);(try clear hb)));go_ret2;exact ⟨zF,zB⟩
            ·rw [if_neg c49] at H;have c49b0 : (x6_23 == (a0.size : Int)) = false:=beq_eq_false_iff_ne.mpr c49;have c49b1 : (x6_23 != (a0.size : Int)) = true:=bne_iff_ne.mpr c49;simp only [Option.some.injEq,Prod.mk.injEq] at H;obtain ⟨rfl,rfl⟩:=H;go_wp2;go_ret2;exact ⟨zF,zB⟩
   ·rw [if_neg c6] at H;exact absurd H (by simp)
  ·rw [if_neg c5] at H;exact absurd H (by simp)
 ·replace c4:=Bool.eq_false_iff.mpr c4;subst c4;(have H1 : (some (0,false)) = some (r1,r2):=by rw [if_neg (show ¬ (false = true) by decide)] at H;exact H);clear H;have H:=H1;clear H1;simp only [Option.some.injEq,Prod.mk.injEq] at H;obtain ⟨rfl,rfl⟩:=H;go_enter Tryz.func24,Tryz.ntmps24;go_wp2_with (first | ((with_reducible refine Zaf (f:=45) rfl ?_);refine Zav (some 14) rfl rfl Tryz.func45 (by kernel_rfl) rfl #[.string a0,.int .i64 0] rfl zL ?_;(with_reducible refine (Zan.calls k a0 0 t181 _ A2.out).mono ?_);rintro e w' ⟨rfl,⟨nd,rfl⟩⟩;refine ⟨_,rfl,?_⟩) | ((with_reducible refine Zaf (f:=46) rfl ?_);refine Zav (some 16) rfl rfl Tryz.func46 (by kernel_rfl) rfl #[.int .i64 t181,.int .i64 1,.int .i64 30] rfl zL ?_;(with_reducible refine (Zax.calls t181 1 30 false _ A3.out).mono ?_);rintro e w' ⟨rfl,⟨nd,rfl⟩⟩;refine ⟨_,rfl,?_⟩));go_ret2;exact ⟨zF,zB⟩
end
end Go.Proofs.YtfoekmfpcahmiabGreatDoor.MFnTokens
