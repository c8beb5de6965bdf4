-- by this session's own program mp.py over the kit's printer (tokpatch)
import Derived.Test.YtfoekmfpcahmiabGreatDoorSQMFnTokensx12
namespace Go.Proofs.YtfoekmfpcahmiabGreatDoor.MFnTokens
open Go.RowKit YtfoekmfpcahmiabGreatDoorW.PrintWords YtfoekmfpcahmiabGreatDoorW.PrintLast YtfoekmfpcahmiabGreatDoorW.PrintMore
set_option maxHeartbeats 8000000
set_option maxRecDepth 100000
attribute [local go_sem] ZbL ZbJ ZbZ ZbY Zbw Zbv ZbK ZbI
set_option linter.unusedVariables false
set_option linter.unusedSimpArgs false
mutual
def Zad.j0 : Nat → ByteArray → ByteArray → Int → Int → Bool → Option (Int × Bool)
 | 0,_,_,_,_,_ => none
 | k + 1,x0,x5,x6,x7,x34 => if x34 = true then ((ZaD.f k x0 (wrap64 (x7 + 1))).bind fun t334 => ((Za6.f t334 1 30).bind fun t335 => (if t335 = true then (if 0 ≤ (wrap64 (x7 + 1)) then (if (wrap64 (x7 + 1)) ≤ (wrap64 ((wrap64 (x7 + 1)) + t334)) then (if (wrap64 ((wrap64 (x7 + 1)) + t334)) ≤ (x0.size : Int) then (if x5.size + (x0.extract ((wrap64 (x7 + 1)) : Int).toNat ((wrap64 ((wrap64 (x7 + 1)) + t334)) : Int).toNat).size ≤ 9223372036854775807 then (Zad.j1 k x0 (x5 ++ (x0.extract ((wrap64 (x7 + 1)) : Int).toNat ((wrap64 ((wrap64 (x7 + 1)) + t334)) : Int).toNat)) (wrap64 (-t334)) (wrap64 ((wrap64 (x7 + 1)) + t334))) else (none)) else (none)) else (none)) else (none)) else (some (0,false))))) else (Zad.j1 k x0 x5 x6 x7)
def Zad.j1 : Nat → ByteArray → ByteArray → Int → Int → Option (Int × Bool)
 | 0,_,_,_,_ => none
 | k + 1,x0,x5,x6,x7 => if x7 < (x0.size : Int) then (if 0 ≤ x7 then (Zad.j2 k x0 x5 x6 x7 ((bt x0 x7) == 101)) else (none)) else (Zad.j2 k x0 x5 x6 x7 false)
def Zad.j2 : Nat → ByteArray → ByteArray → Int → Int → Bool → Option (Int × Bool)
 | 0,_,_,_,_,_ => none
 | k + 1,x0,x5,x6,x7,x67 => if x67 = true then (if (wrap64 (x7 + 1)) < (x0.size : Int) then (if 0 ≤ (wrap64 (x7 + 1)) then (Zad.j3 k x0 x5 x6 (wrap64 (x7 + 1)) ((bt x0 (wrap64 (x7 + 1))) == 45)) else (none)) else (Zad.j3 k x0 x5 x6 (wrap64 (x7 + 1)) false)) else (Zad.j7 k x0 x5 x6 x7)
def Zad.j7 : Nat → ByteArray → ByteArray → Int → Int → Option (Int × Bool)
 | 0,_,_,_,_ => none
 | k + 1,x0,x5,x6,x7 => if x7 = (x0.size : Int) then ((Zba.f k x5).bind fun t338 => ((ZaQ.f k t338).bind fun t339 => (if t339 = true then (some (0,true)) else (if x6 > 500 then (some (9218868437227405312,true)) else (if x6 < (-500) then (some (0,true)) else ((Zaq.f k t338 x6).bind fun t340 => (some (t340,true)))))))) else (some (0,false))
def Zad.j3 : Nat → ByteArray → ByteArray → Int → Int → Bool → Option (Int × Bool)
 | 0,_,_,_,_,_ => none
 | k + 1,x0,x5,x6,x7,x9 => if x7 < (x0.size : Int) then (if 0 ≤ x7 then (if (bt x0 x7) = 45 then (Zad.j4 k x0 x5 x6 x7 x9 true) else (Zad.j4 k x0 x5 x6 x7 x9 ((bt x0 x7) == 43))) else (none)) else (Zad.j4 k x0 x5 x6 x7 x9 false)
def Zad.j4 : Nat → ByteArray → ByteArray → Int → Int → Bool → Bool → Option (Int × Bool)
 | 0,_,_,_,_,_,_ => none
 | k + 1,x0,x5,x6,x7,x9,x95 => if x95 = true then (Zad.j5 k x0 x5 x6 (wrap64 (x7 + 1)) x9) else (Zad.j5 k x0 x5 x6 x7 x9)
def Zad.j5 : Nat → ByteArray → ByteArray → Int → Int → Bool → Option (Int × Bool)
 | 0,_,_,_,_,_ => none
 | k + 1,x0,x5,x6,x7,x9 => (ZaD.f k x0 x7).bind fun t336 => ((Za6.f t336 1 3).bind fun t337 => (if t337 = true then (Zad.l0 k x0 x5 x6 x7 x9 t336 0 0) else (some (0,false))))
def Zad.l0 : Nat → ByteArray → ByteArray → Int → Int → Bool → Int → Int → Int → Option (Int × Bool)
 | 0,_,_,_,_,_,_,_,_ => none
 | k + 1,x0,x5,x6,x7,x9,x10,x11,x12 => if x12 < x10 then (if 0 ≤ (wrap64 (x7 + x12)) then (if (wrap64 (x7 + x12)) < (x0.size : Int) then (Zad.l0 k x0 x5 x6 x7 x9 x10 (wrap64 ((wrap64 ((wrap64 (10 * x11)) + (wrap64 (bt x0 (wrap64 (x7 + x12)))))) - 48)) (wrap64 (x12 + 1))) else (none)) else (none)) else (if x9 = true then (Zad.j7 k x0 x5 (wrap64 (x6 + (wrap64 (-x11)))) (wrap64 (x7 + x10))) else (Zad.j7 k x0 x5 (wrap64 (x6 + x11)) (wrap64 (x7 + x10))))
end
def Zad.f (k : Nat) (a0 : ByteArray) : Option (Int × Bool):=if (a0.size : Int) > 80 then (some (0,false)) else ((ZaD.f k a0 0).bind fun t332 => ((Za6.f t332 1 30).bind fun t333 => (if t333 = true then (if 0 ≤ t332 then (if t332 ≤ (a0.size : Int) then (if t332 < (a0.size : Int) then (Zad.j0 k a0 (a0.extract 0 (t332 : Int).toNat) 0 t332 ((bt a0 t332) == 46)) else (Zad.j0 k a0 (a0.extract 0 (t332 : Int).toNat) 0 t332 false)) else (none)) else (none)) else (some (0,false)))))
theorem Zad.calls (k : Nat) (a0 : ByteArray) (r1 : Int) (r2 : Bool) (w : World) (h : Zad.f k a0 = some (r1,r2)) :
  Calls Tryz.prog 33 #[.string a0] w fun e w' => e = .returned (.tuple #[.int .u64 r1,.bool r2]) ∧ Below w.heap.size w w':=by
 have HB:=Zaa.mk (Below.refl w.heap.size w);have H : (if (a0.size : Int) > 80 then (some (0,false)) else ((ZaD.f k a0 0).bind fun t332 => ((Za6.f t332 1 30).bind fun t333 => (if t333 = true then (if 0 ≤ t332 then (if t332 ≤ (a0.size : Int) then (if t332 < (a0.size : Int) then (Zad.j0 k a0 (a0.extract 0 (t332 : Int).toNat) 0 t332 ((bt a0 t332) == 46)) else (Zad.j0 k a0 (a0.extract 0 (t332 : Int).toNat) 0 t332 false)) else (none)) else (none)) else (some (0,false)))))) = some (r1,r2):=h;clear h;by_cases c2 : (a0.size : Int) > 80
 ·rw [if_pos c2] at H;have c2b0 : decide (80 < (a0.size : Int)) = true:=decide_eq_true c2;have c2b1 : decide (80 < a0.size) = true:=decide_eq_true (by omega);clear c2;simp only [Option.some.injEq,Prod.mk.injEq] at H;obtain ⟨rfl,rfl⟩:=H;go_enter Tryz.func33,Tryz.ntmps33;go_wp2;go_ret2;exact ⟨zF,zB⟩
 ·rw [if_neg c2] at H;have c2b0 : decide (80 < (a0.size : Int)) = false:=decide_eq_false c2;have c2b1 : decide (80 < a0.size) = false:=decide_eq_false (by omega);clear c2;replace H:=zM H;obtain ⟨t332,A30,H⟩:=H
  try dsimp only at H
  have A3:=Zaa.mk A30;clear A30;replace H:=zM H;obtain ⟨t333,A40,H⟩:=H
  try dsimp only at H
  have A4:=Zaa.mk A40;clear A40;by_cases c5 : t333 = true
  ·subst c5;have H1:=H;rw [if_pos rfl] at H1;clear H;have H:=H1;clear H1;by_cases c6 : 0 ≤ t332
   ·rw [if_pos c6] at H;have c6b0:=eq_true c6;have c6b1:=decide_eq_true c6;clear c6;by_cases c7 : t332 ≤ (a0.size : Int)
    ·rw [if_pos c7] at H;have c7b0:=eq_true c7;have c7b1:=decide_eq_true c7;clear c7;have HC8:=Zaa.mk H;clear H;go_enter Tryz.func33,Tryz.ntmps33;go_upto_region 9 with (first | ((with_reducible refine Zaf (f:=51) rfl ?_);refine Zav (some 17) rfl rfl Tryz.func51 (by kernel_rfl) rfl #[.string a0,.int .i64 0] rfl zL ?_;(with_reducible refine (ZaD.calls k a0 0 t332 _ A3.out).mono ?_);rintro e w' ⟨rfl,⟨nd,rfl⟩⟩;refine ⟨_,rfl,?_⟩) | ((with_reducible refine Zaf (f:=52) rfl ?_);refine Zav (some 19) rfl rfl Tryz.func52 (by kernel_rfl) rfl #[.int .i64 t332,.int .i64 1,.int .i64 30] rfl zL ?_;(with_reducible refine (Za6.calls t332 1 30 true _ A4.out).mono ?_);rintro e w' ⟨rfl,⟨nd,rfl⟩⟩;refine ⟨_,rfl,?_⟩));(try simp only [Act.put,List.setIfInBounds_toArray,List.set_cons_zero,List.set_cons_succ]);go_cut [34] (fun v34 wc => ∃ (kq : Nat) (x34_7 : Bool),v34 = .bool x34_7 ∧ Zaa (Zad.j0 kq a0 (a0.extract 0 (t332 : Int).toNat) 0 t332 x34_7 = some (r1,r2)) ∧ Zaa (kq ≤ k) ∧ Zaa (Below w.heap.size w wc))
     case first =>
      have H:=HC8.out;clear HC8;by_cases c9 : t332 < (a0.size : Int)
      ·rw [if_pos c9] at H;have c9b0:=decide_eq_true c9;clear c9;(first | rw [c9b0] | (simp only [ZaU,Zbc];rw [c9b0]) | skip);have H':=Zaa.mk H;clear H;have p10 : 0 ≤ (t332 : Int):=of_decide_eq_true zA;have q10 : t332 < (a0.size : Int):=of_decide_eq_true zA;have hx10:=Za8 a0 t332;replace p10:=eq_true p10;replace q10:=eq_true q10;go_wp2;go_meet
       case rel => exact ⟨_,(((bt a0 t332) == 46)),zE,H',⟨by first | omega | exact Nat.le_refl _⟩,⟨zB⟩⟩
      ·rw [if_neg c9] at H;have c9b0:=decide_eq_false c9;clear c9;(first | rw [c9b0] | (simp only [ZaU,Zbc];rw [c9b0]) | skip);have H':=Zaa.mk H;clear H;go_wp2;go_meet
       case rel => exact ⟨_,(false),zE,H',⟨by first | omega | exact Nat.le_refl _⟩,⟨zB⟩⟩
     case rest =>
      clear HC8
      try clear hx1
      try clear hx10
      obtain ⟨kq,x34_7,rfl,HA,HJ7,HB⟩:=hcut
      cases kq with
      | zero => exact absurd HA.out (by simp [Zad.j0])
      | succ kj7 =>
       have H:=HA.out;clear HA;simp only [Zad.j0] at H;have HC11:=Zaa.mk H;clear H;go_upto_if 34 with (fail);go_cut [5,6,7] (fun v5 v6 v7 wc => ∃ (kq : Nat) (x5_10 : ByteArray) (x6_10 : Int) (x7_10 : Int),v5 = .string x5_10 ∧ v6 = .int .i64 x6_10 ∧ v7 = .int .i64 x7_10 ∧ Zaa (Zad.j1 kq a0 x5_10 x6_10 x7_10 = some (r1,r2)) ∧ Zaa (kq ≤ kj7) ∧ Zaa (Below w.heap.size w wc))
       case first =>
        have H:=HC11.out;clear HC11;by_cases c12 : x34_7 = true
        ·subst c12;have H1:=H;rw [if_pos rfl] at H1;clear H;have H:=H1;clear H1;replace H:=zM H;obtain ⟨t334,A130,H⟩:=H
         try dsimp only at H
         have A13:=Zaa.mk A130;clear A130;replace H:=zM H;obtain ⟨t335,A140,H⟩:=H
         try dsimp only at H
         have A14:=Zaa.mk A140;clear A140;by_cases c15 : t335 = true
         ·subst c15;have H1:=H;rw [if_pos rfl] at H1;clear H;have H:=H1;clear H1;obtain ⟨ji16,hji16⟩ : ∃ j_ : Int,(wrap64 (t332 + 1)) = j_:=⟨_,rfl⟩
          first | rw [hji16] at H | simp only [hji16] at H
          (try rw [hji16] at A13);(try rw [hji16] at A14);have hji16w : (IntKind.i64.wrap (t332 + 1)) = ji16:=(ZaU _).trans hji16;by_cases c17 : 0 ≤ (ji16)
          ·rw [if_pos c17] at H;have c17b0:=eq_true c17;have c17b1:=decide_eq_true c17;clear c17;by_cases c18 : (ji16) ≤ (wrap64 ((ji16) + t334))
           ·rw [if_pos c18] at H;have c18b0:=eq_true c18;have c18b1:=decide_eq_true c18;by_cases c19 : (wrap64 ((ji16) + t334)) ≤ (a0.size : Int)
            ·rw [if_pos c19] at H;have c19b0:=eq_true c19;have c19b1:=decide_eq_true c19;by_cases c20 : (a0.extract 0 (t332 : Int).toNat).size + (a0.extract ((ji16) : Int).toNat ((wrap64 ((ji16) + t334)) : Int).toNat).size ≤ 9223372036854775807
             ·rw [if_pos c20] at H;have c20b0:=eq_true c20;have c20b1:=decide_eq_true c20
              try have c20b2 : (9223372036854775807 < (a0.extract 0 (t332 : Int).toNat).size + (a0.extract ((ji16) : Int).toNat ((wrap64 ((ji16) + t334)) : Int).toNat).size) = False:=eq_false (Nat.not_lt.2 c20)
              try (have c20x0:=c20b0;have c20x1:=c20b1;have c20x2:=c20b2;simp only [ByteArray.size_append,ByteArray.size_extract,Nat.min_self,Nat.sub_zero] at c20x0 c20x1 c20x2)
              try (have hmin : min (t332 : Int).toNat a0.size = (t332 : Int).toNat:=(by have h1:=of_decide_eq_true (by assumption : decide (t332 ≤ (a0.size : Int)) = true);omega);have c20y0:=c20x0;have c20y1:=c20x1;have c20y2:=c20x2;simp only [hmin] at c20y0 c20y1 c20y2)
              have H':=Zaa.mk H;clear H;go_wp2_with (first | ((with_reducible refine Zaf (f:=51) rfl ?_);refine Zav (some 38) rfl rfl Tryz.func51 (by kernel_rfl) rfl #[.string a0,.int .i64 ji16] rfl (by (try simp only [List.map_toArray,List.map_cons,List.map_nil]);first | done | (simp only [hji16];rfl) | rfl | (simp only [List.length_drop,List.length_take];rfl)) ?_;(with_reducible refine (ZaD.calls kj7 a0 ji16 t334 _ A13.out).mono ?_);rintro e w' ⟨rfl,⟨nd,rfl⟩⟩;refine ⟨_,rfl,?_⟩) | ((with_reducible refine Zaf (f:=52) rfl ?_);refine Zav (some 40) rfl rfl Tryz.func52 (by kernel_rfl) rfl #[.int .i64 t334,.int .i64 1,.int .i64 30] rfl zL ?_;(with_reducible refine (Za6.calls t334 1 30 true _ A14.out).mono ?_);rintro e w' ⟨rfl,⟨nd,rfl⟩⟩;refine ⟨_,rfl,?_⟩));go_meet
              case rel => exact ⟨_,((a0.extract 0 (t332 : Int).toNat) ++ (a0.extract ((ji16) : Int).toNat ((wrap64 ((ji16) + t334)) : Int).toNat)),(wrap64 (-t334)),(wrap64 ((ji16) + t334)),(by first | rfl | (simp;done) | (simp only [← hji16] <;> (first | rfl | simp)) | (simp [*];done)),zE,(by first | rfl | (simp;done) | (simp only [← hji16] <;> (first | rfl | simp)) | (simp [*];done)),(by first | exact H' | (rw [hji16];exact H')),⟨by have:=HJ7.out;first | omega | exact Nat.le_refl _⟩,⟨zB⟩⟩
             ·rw [if_neg c20] at H;exact absurd H (by simp)
            ·rw [if_neg c19] at H;exact absurd H (by simp)
           ·rw [if_neg c18] at H;exact absurd H (by simp)
          ·rw [if_neg c17] at H;exact absurd H (by simp)
         ·replace c15:=Bool.eq_false_iff.mpr c15;subst c15;(have H1 : (some (0,false)) = some (r1,r2):=by rw [if_neg (show ¬ (false = true) by decide)] at H;exact H);clear H;have H:=H1;clear H1;simp only [Option.some.injEq,Prod.mk.injEq] at H;obtain ⟨rfl,rfl⟩:=H;go_wp2_with (first | ((with_reducible refine Zaf (f:=51) rfl ?_);refine Zav (some 38) rfl rfl Tryz.func51 (by kernel_rfl) rfl #[.string a0,.int .i64 (wrap64 (t332 + 1))] rfl zL ?_;(with_reducible refine (ZaD.calls kj7 a0 (wrap64 (t332 + 1)) t334 _ A13.out).mono ?_);rintro e w' ⟨rfl,⟨nd,rfl⟩⟩;refine ⟨_,rfl,?_⟩) | ((with_reducible refine Zaf (f:=52) rfl ?_);refine Zav (some 40) rfl rfl Tryz.func52 (by kernel_rfl) rfl #[.int .i64 t334,.int .i64 1,.int .i64 30] rfl zL ?_;(with_reducible refine (Za6.calls t334 1 30 false _ A14.out).mono ?_);rintro e w' ⟨rfl,⟨nd,rfl⟩⟩;refine ⟨_,rfl,?_⟩));go_ret2;exact ⟨zF,zB⟩
        ·replace c12:=Bool.eq_false_iff.mpr c12;subst c12;have H1:=H;rw [if_neg (show ¬ (false = true) by decide)] at H1;clear H;have H:=H1;clear H1;have H':=Zaa.mk H;clear H;go_wp2;go_meet
         case rel => exact ⟨_,((a0.extract 0 (t332 : Int).toNat)),(0),(t332),zE,zE,zE,H',⟨by have:=HJ7.out;first | omega | exact Nat.le_refl _⟩,⟨zB⟩⟩
       case rest =>
        clear HC11
        try clear hx1
        try clear hx10
        obtain ⟨kq,x5_10,x6_10,x7_10,rfl,rfl,rfl,HA,HJ10,HB⟩:=hcut
        cases kq with
        | zero => exact absurd HA.out (by simp [Zad.j1])
        | succ kj10 =>
         have H:=HA.out;clear HA;simp only [Zad.j1] at H;have HC21:=Zaa.mk H;clear H;go_upto_region 16 with (fail);go_cut [67] (fun v67 wc => ∃ (kq : Nat) (x67_20 : Bool),v67 = .bool x67_20 ∧ Zaa (Zad.j2 kq a0 x5_10 x6_10 x7_10 x67_20 = some (r1,r2)) ∧ Zaa (kq ≤ kj10) ∧ Zaa (Below w.heap.size w wc))
         case first =>
          have H:=HC21.out;clear HC21;by_cases c22 : x7_10 < (a0.size : Int)
          ·rw [if_pos c22] at H;have c22b0:=decide_eq_true c22;clear c22;(first | rw [c22b0] | (simp only [ZaU,Zbc];rw [c22b0]) | skip);by_cases c23 : 0 ≤ x7_10
           ·rw [if_pos c23] at H;have c23b0:=decide_eq_true c23;clear c23;have H':=Zaa.mk H;clear H;have p24 : 0 ≤ (x7_10 : Int):=of_decide_eq_true zA;have q24 : x7_10 < (a0.size : Int):=of_decide_eq_true zA;have hx24:=Za8 a0 x7_10;replace p24:=eq_true p24;replace q24:=eq_true q24;go_wp2;go_meet
            case rel => exact ⟨_,(((bt a0 x7_10) == 101)),zE,H',⟨by have:=HJ7.out;have:=HJ10.out;first | omega | exact Nat.le_refl _⟩,⟨zB⟩⟩
           ·rw [if_neg c23] at H;exact absurd H (by simp)
          ·rw [if_neg c22] at H;have c22b0:=decide_eq_false c22;clear c22;(first | rw [c22b0] | (simp only [ZaU,Zbc];rw [c22b0]) | skip);have H':=Zaa.mk H;clear H;go_wp2;go_meet
           case rel => exact ⟨_,(false),zE,H',⟨by have:=HJ7.out;have:=HJ10.out;first | omega | exact Nat.le_refl _⟩,⟨zB⟩⟩
         case rest =>
          clear HC21
          try clear hx1
          try clear hx2
          try clear hx10
          try clear hx24
          obtain ⟨kq,x67_20,rfl,HA,HJ20,HB⟩:=hcut
          cases kq with
          | zero => exact absurd HA.out (by simp [Zad.j2])
          | succ kj20 =>
           have H:=HA.out;clear HA;simp only [Zad.j2] at H;have HC25:=Zaa.mk H;clear H;go_upto_if 67 with (fail);go_cut [6,7] (fun v6 v7 wc => ∃ (kq : Nat) (x6_24 : Int) (x7_24 : Int),v6 = .int .i64 x6_24 ∧ v7 = .int .i64 x7_24 ∧ Zaa (Zad.j7 kq a0 x5_10 x6_24 x7_24 = some (r1,r2)) ∧ Zaa (kq ≤ kj20) ∧ Zaa (Below w.heap.size w wc))
           case first =>
            have H:=HC25.out;clear HC25;by_cases c26 : x67_20 = true
            ·subst c26;have H1:=H;rw [if_pos rfl] at H1;clear H;have H:=H1;clear H1;have HC27:=Zaa.mk H;clear H;go_upto_region 18 with (fail);go_cut [9] (fun v9 wc => ∃ (kq : Nat) (x9_26 : Bool),v9 = .bool x9_26 ∧ Zaa (Zad.j3 kq a0 x5_10 x6_10 (wrap64 (x7_10 + 1)) x9_26 = some (r1,r2)) ∧ Zaa (kq ≤ kj20) ∧ Zaa (Below w.heap.size w wc))
             case first =>
              have H:=HC27.out;clear HC27;by_cases c28 : (wrap64 (x7_10 + 1)) < (a0.size : Int)
              ·rw [if_pos c28] at H;have c28b0:=decide_eq_true c28;clear c28;(first | rw [c28b0] | (simp only [ZaU,Zbc];rw [c28b0]) | skip);obtain ⟨ji29,hji29⟩ : ∃ j_ : Int,(wrap64 (x7_10 + 1)) = j_:=⟨_,rfl⟩
               first | rw [hji29] at H | simp only [hji29] at H
               (try rw [hji29] at c28b0);have hji29w : (IntKind.i64.wrap (x7_10 + 1)) = ji29:=(ZaU _).trans hji29;(try rw [hji29] at c28b0);by_cases c30 : 0 ≤ (ji29)
               ·rw [if_pos c30] at H;have c30b0:=decide_eq_true c30;clear c30;have H':=Zaa.mk H;clear H;have p31 : 0 ≤ ((ji29) : Int):=of_decide_eq_true zA;have q31 : (ji29) < (a0.size : Int):=of_decide_eq_true zA;have hx31:=Za8 a0 (ji29);replace p31:=eq_true p31;replace q31:=eq_true q31;go_wp2;go_meet
                case rel => exact ⟨_,(((bt a0 (ji29)) == 45)),(by first | rfl | (simp;done) | (simp only [← hji29] <;> (first | rfl | simp)) | (simp [*];done)),(by first | exact H' | (rw [hji29];exact H')),⟨by have:=HJ7.out;have:=HJ10.out;have:=HJ20.out;first | omega | exact Nat.le_refl _⟩,⟨zB⟩⟩
               ·rw [if_neg c30] at H;exact absurd H (by simp)
              ·rw [if_neg c28] at H;have c28b0:=decide_eq_false c28;clear c28;(first | rw [c28b0] | (simp only [ZaU,Zbc];rw [c28b0]) | skip);have H':=Zaa.mk H;clear H;go_wp2;go_meet
               case rel => exact ⟨_,(false),zE,H',⟨by have:=HJ7.out;have:=HJ10.out;have:=HJ20.out;first | omega | exact Nat.le_refl _⟩,⟨zB⟩⟩
             case rest =>
              clear HC27
              try clear hx1
              try clear hx2
              try clear hx3
              try clear hx10
              try clear hx24
              try clear hx31
              obtain ⟨kq,x9_26,rfl,HA,HJ26,HB⟩:=hcut
              cases kq with
              | zero => exact absurd HA.out (by simp [Zad.j3])
              | succ kj26 =>
               have H:=HA.out;clear HA;simp only [Zad.j3] at H;have HC32:=Zaa.mk H;clear H;go_upto_region 19 with (fail);go_cut [95] (fun v95 wc => ∃ (kq : Nat) (x95_31 : Bool),v95 = .bool x95_31 ∧ Zaa (Zad.j4 kq a0 x5_10 x6_10 (wrap64 (x7_10 + 1)) x9_26 x95_31 = some (r1,r2)) ∧ Zaa (kq ≤ kj26) ∧ Zaa (Below w.heap.size w wc))
               case first =>
                have H:=HC32.out;clear HC32;by_cases c33 : (wrap64 (x7_10 + 1)) < (a0.size : Int)
                ·rw [if_pos c33] at H;have c33b0:=decide_eq_true c33;clear c33;(first | rw [c33b0] | (simp only [ZaU,Zbc];rw [c33b0]) | skip);obtain ⟨ji34,hji34⟩ : ∃ j_ : Int,(wrap64 (x7_10 + 1)) = j_:=⟨_,rfl⟩
                 first | rw [hji34] at H | simp only [hji34] at H
                 (try rw [hji34] at c33b0);have hji34w : (IntKind.i64.wrap (x7_10 + 1)) = ji34:=(ZaU _).trans hji34;(try rw [hji34] at c33b0);by_cases c35 : 0 ≤ (ji34)
                 ·rw [if_pos c35] at H;have c35b0:=decide_eq_true c35;clear c35;by_cases c37 : (bt a0 (ji34)) = 45
                  ·rw [if_pos c37] at H;have c37b0 : ((bt a0 (ji34)) == 45) = true:=beq_iff_eq.mpr c37;have c37b1 : ((bt a0 (ji34)) != 45) = false:=bne_eq_false_iff_eq.mpr c37;clear c37;have H':=Zaa.mk H;clear H;have p36 : 0 ≤ ((ji34) : Int):=of_decide_eq_true zA;have q36 : (ji34) < (a0.size : Int):=of_decide_eq_true zA;have hx36:=Za8 a0 (ji34);replace p36:=eq_true p36;replace q36:=eq_true q36;go_wp2
                   try subst hji34
                   go_meet
                   case rel => exact ⟨_,(true),zE,H',⟨by have:=HJ7.out;have:=HJ10.out;have:=HJ20.out;have:=HJ26.out;first | omega | exact Nat.le_refl _⟩,⟨zB⟩⟩
                  ·rw [if_neg c37] at H;have c37b0 : ((bt a0 (ji34)) == 45) = false:=beq_eq_false_iff_ne.mpr c37;have c37b1 : ((bt a0 (ji34)) != 45) = true:=bne_iff_ne.mpr c37;have H':=Zaa.mk H;clear H;have p36 : 0 ≤ ((ji34) : Int):=of_decide_eq_true zA;have q36 : (ji34) < (a0.size : Int):=of_decide_eq_true zA;have hx36:=Za8 a0 (ji34);replace p36:=eq_true p36;replace q36:=eq_true q36;have p38 : 0 ≤ ((ji34) : Int):=of_decide_eq_true zA;have q38 : (ji34) < (a0.size : Int):=of_decide_eq_true zA;have hx38:=Za8 a0 (ji34);replace p38:=eq_true p38;replace q38:=eq_true q38;go_wp2;go_meet
                   case rel => exact ⟨_,(((bt a0 (ji34)) == 43)),(by first | rfl | (simp;done) | (simp only [← hji34] <;> (first | rfl | simp)) | (simp [*];done)),(by first | exact H' | (rw [hji34];exact H')),⟨by have:=HJ7.out;have:=HJ10.out;have:=HJ20.out;have:=HJ26.out;first | omega | exact Nat.le_refl _⟩,⟨zB⟩⟩
                 ·rw [if_neg c35] at H;exact absurd H (by simp)
                ·rw [if_neg c33] at H;have c33b0:=decide_eq_false c33;clear c33;(first | rw [c33b0] | (simp only [ZaU,Zbc];rw [c33b0]) | skip);have H':=Zaa.mk H;clear H;go_wp2;go_meet
                 case rel => exact ⟨_,(false),zE,H',⟨by have:=HJ7.out;have:=HJ10.out;have:=HJ20.out;have:=HJ26.out;first | omega | exact Nat.le_refl _⟩,⟨zB⟩⟩
               case rest =>
                clear HC32
                try clear hx1
                try clear hx2
                try clear hx3
                try clear hx10
                try clear hx24
                try clear hx31
                try clear hx36
                try clear hx38
                obtain ⟨kq,x95_31,rfl,HA,HJ31,HB⟩:=hcut
                cases kq with
                | zero => exact absurd HA.out (by simp [Zad.j4])
                | succ kj31 =>
                 have H:=HA.out;clear HA;simp only [Zad.j4] at H;have HC39:=Zaa.mk H;clear H;go_upto_if 95 with (fail);go_cut [7] (fun v7 wc => ∃ (kq : Nat) (x7_38 : Int),v7 = .int .i64 x7_38 ∧ Zaa (Zad.j5 kq a0 x5_10 x6_10 x7_38 x9_26 = some (r1,r2)) ∧ Zaa (kq ≤ kj31) ∧ Zaa (Below w.heap.size w wc))
                 case first =>
                  have H:=HC39.out;clear HC39;by_cases c40 : x95_31 = true
                  ·subst c40;have H1:=H;rw [if_pos rfl] at H1;clear H;have H:=H1;clear H1;have H':=Zaa.mk H;clear H;go_wp2;go_meet
                   case rel => exact ⟨_,(wrap64 ((wrap64 (x7_10 + 1)) + 1)),zE,H',⟨by have:=HJ7.out;have:=HJ10.out;have:=HJ20.out;have:=HJ26.out;have:=HJ31.out;first | omega | exact Nat.le_refl _⟩,⟨zB⟩⟩
                  ·replace c40:=Bool.eq_false_iff.mpr c40;subst c40;have H1:=H;rw [if_neg (show ¬ (false = true) by decide)] at H1;clear H;have H:=H1;clear H1;have H':=Zaa.mk H;clear H;go_wp2;go_meet
                   case rel => exact ⟨_,((wrap64 (x7_10 + 1))),zE,H',⟨by have:=HJ7.out;have:=HJ10.out;have:=HJ20.out;have:=HJ26.out;have:=HJ31.out;first | omega | exact Nat.le_refl _⟩,⟨zB⟩⟩
                 case rest =>
                  clear HC39
                  try clear hx1
                  try clear hx2
                  try clear hx3
                  try clear hx10
                  try clear hx24
                  try clear hx31
                  try clear hx36
                  try clear hx38
                  obtain ⟨kq,x7_38,rfl,HA,HJ38,HB⟩:=hcut
                  cases kq with
                  | zero => exact absurd HA.out (by simp [Zad.j5])
                  | succ kj38 =>
                   have H:=HA.out;clear HA;simp only [Zad.j5] at H;replace H:=zM H;obtain ⟨t336,A410,H⟩:=H
                   try dsimp only at H
                   have A41:=Zaa.mk A410;clear A410;replace H:=zM H;obtain ⟨t337,A420,H⟩:=H
                   try dsimp only at H
                   have A42:=Zaa.mk A420;clear A420;by_cases c43 : t337 = true
                   ·subst c43;have H1:=H;rw [if_pos rfl] at H1;clear H;have H:=H1;clear H1;have H':=Zaa.mk H;clear H;go_wp2_with (first | ((with_reducible refine Zaf (f:=51) rfl ?_);refine Zav (some 100) rfl rfl Tryz.func51 (by kernel_rfl) rfl #[.string a0,.int .i64 x7_38] rfl zL ?_;(with_reducible refine (ZaD.calls kj38 a0 x7_38 t336 _ A41.out).mono ?_);rintro e w' ⟨rfl,⟨nd,rfl⟩⟩;refine ⟨_,rfl,?_⟩) | ((with_reducible refine Zaf (f:=52) rfl ?_);refine Zav (some 102) rfl rfl Tryz.func52 (by kernel_rfl) rfl #[.int .i64 t336,.int .i64 1,.int .i64 3] rfl zL ?_;(with_reducible refine (Za6.calls t336 1 3 true _ A42.out).mono ?_);rintro e w' ⟨rfl,⟨nd,rfl⟩⟩;refine ⟨_,rfl,?_⟩));go_loopg [11,12] kj38 (fun kq v11 v12 w' => ∃ (x11_7 : Int) (x12_7 : Int),v11 = .int .i64 x11_7 ∧ v12 = .int .i64 x12_7 ∧ Zaa (Zad.l0 kq a0 x5_10 x6_10 x7_38 x9_26 t336 x11_7 x12_7 = some (r1,r2)) ∧ Zaa (kq ≤ kj38) ∧ Zaa (Below w.heap.size w w'))
                    case atStart => exact ⟨(0),(0),zE,zE,H',⟨Nat.le_refl _⟩,⟨zB⟩⟩
                    case round =>
                     clear H'
                     try clear hx1
                     try clear hx2
                     try clear hx3
                     try clear hx10
                     try clear hx24
                     try clear hx31
                     try clear hx36
                     try clear hx38
                     obtain ⟨x11_7,x12_7,rfl,rfl,HA,HK7,HB⟩:=hrel
                     cases gk with
                     | zero => exact absurd HA.out (by simp [Zad.l0])
                     | succ k7 =>
                      have H:=HA.out;clear HA;simp only [Zad.l0] at H;by_cases c44 : x12_7 < t336
                      ·rw [if_pos c44] at H;have c44b0:=decide_eq_true c44;clear c44;obtain ⟨ji45,hji45⟩ : ∃ j_ : Int,(wrap64 (x7_38 + x12_7)) = j_:=⟨_,rfl⟩
                       first | rw [hji45] at H | simp only [hji45] at H
                       have hji45w : (IntKind.i64.wrap (x7_38 + x12_7)) = ji45:=(ZaU _).trans hji45;by_cases c46 : 0 ≤ (ji45)
                       ·rw [if_pos c46] at H;have c46b0:=decide_eq_true c46;clear c46;by_cases c47 : (ji45) < (a0.size : Int)
                        ·rw [if_pos c47] at H;have c47b0:=decide_eq_true c47;clear c47;have H':=Zaa.mk H;clear H;have p48 : 0 ≤ ((ji45) : Int):=of_decide_eq_true zA;have q48 : (ji45) < (a0.size : Int):=of_decide_eq_true zA;have hx48:=Za8 a0 (ji45);replace p48:=eq_true p48;replace q48:=eq_true q48;go_wp2;go_roundg k7
                         case measure => have:=HJ7.out;have:=HJ10.out;have:=HJ20.out;have:=HJ26.out;have:=HJ31.out;have:=HJ38.out;have:=HK7.out;omega
                         case rel => exact ⟨(wrap64 ((wrap64 ((wrap64 (10 * x11_7)) + (wrap64 (bt a0 (ji45))))) - 48)),(wrap64 (x12_7 + 1)),(by first | rfl | (simp;done) | (simp only [← hji45] <;> (first | rfl | simp)) | (simp [*];done)),zE,(by first | exact H' | (rw [hji45];exact H')),⟨by have:=HJ7.out;have:=HJ10.out;have:=HJ20.out;have:=HJ26.out;have:=HJ31.out;have:=HJ38.out;have:=HK7.out;omega⟩,⟨zB⟩⟩
                        ·rw [if_neg c47] at H;exact absurd H (by simp)
                       ·rw [if_neg c46] at H;exact absurd H (by simp)
                      ·rw [if_neg c44] at H;have c44b0:=decide_eq_false c44;clear c44;by_cases c49 : x9_26 = true
                       ·subst c49;have H1:=H;rw [if_pos rfl] at H1;clear H;have H:=H1;clear H1;have H':=Zaa.mk H;clear H;go_wp2;go_meet
                        case rel => exact ⟨_,(wrap64 (x6_10 + (wrap64 (-x11_7)))),(wrap64 (x7_38 + t336)),zE,zE,H',⟨by have:=HJ7.out;have:=HJ10.out;have:=HJ20.out;have:=HJ26.out;have:=HJ31.out;have:=HJ38.out;have:=HK7.out;first | omega | exact Nat.le_refl _⟩,⟨zB⟩⟩
                       ·replace c49:=Bool.eq_false_iff.mpr c49;subst c49;have H1:=H;rw [if_neg (show ¬ (false = true) by decide)] at H1;clear H;have H:=H1;clear H1;have H':=Zaa.mk H;clear H;go_wp2;go_meet
                        case rel => exact ⟨_,(wrap64 (x6_10 + x11_7)),(wrap64 (x7_38 + t336)),zE,zE,H',⟨by have:=HJ7.out;have:=HJ10.out;have:=HJ20.out;have:=HJ26.out;have:=HJ31.out;have:=HJ38.out;have:=HK7.out;first | omega | exact Nat.le_refl _⟩,⟨zB⟩⟩
                   ·replace c43:=Bool.eq_false_iff.mpr c43;subst c43;(have H1 : (some (0,false)) = some (r1,r2):=by rw [if_neg (show ¬ (false = true) by decide)] at H;exact H);clear H;have H:=H1;clear H1;simp only [Option.some.injEq,Prod.mk.injEq] at H;obtain ⟨rfl,rfl⟩:=H;go_wp2_with (first | ((with_reducible refine Zaf (f:=51) rfl ?_);refine Zav (some 100) rfl rfl Tryz.func51 (by kernel_rfl) rfl #[.string a0,.int .i64 x7_38] rfl zL ?_;(with_reducible refine (ZaD.calls kj38 a0 x7_38 t336 _ A41.out).mono ?_);rintro e w' ⟨rfl,⟨nd,rfl⟩⟩;refine ⟨_,rfl,?_⟩) | ((with_reducible refine Zaf (f:=52) rfl ?_);refine Zav (some 102) rfl rfl Tryz.func52 (by kernel_rfl) rfl #[.int .i64 t336,.int .i64 1,.int .i64 3] rfl zL ?_;(with_reducible refine (Za6.calls t336 1 3 false _ A42.out).mono ?_);rintro e w' ⟨rfl,⟨nd,rfl⟩⟩;refine ⟨_,rfl,?_⟩));go_ret2;exact ⟨zF,zB⟩
            ·replace c26:=Bool.eq_false_iff.mpr c26;subst c26;have H1:=H;rw [if_neg (show ¬ (false = true) by decide)] at H1;clear H;have H:=H1;clear H1;have H':=Zaa.mk H;clear H;go_wp2;go_meet
             case rel => exact ⟨_,(x6_10),(x7_10),zE,zE,H',⟨by have:=HJ7.out;have:=HJ10.out;have:=HJ20.out;first | omega | exact Nat.le_refl _⟩,⟨zB⟩⟩
           case rest =>
            clear HC25
            try clear hx1
            try clear hx2
            try clear hx3
            try clear hx4
            try clear hx10
            try clear hx24
            try clear hx31
            try clear hx36
            try clear hx38
            try clear hx48
            obtain ⟨kq,x6_24,x7_24,rfl,rfl,HA,HJ24,HB⟩:=hcut
            cases kq with
            | zero => exact absurd HA.out (by simp [Zad.j7])
            | succ kj24 =>
             have H:=HA.out;clear HA;simp only [Zad.j7] at H;by_cases c50 : x7_24 = (a0.size : Int)
             ·rw [if_pos c50] at H;have c50b0 : (x7_24 == (a0.size : Int)) = true:=beq_iff_eq.mpr c50;have c50b1 : (x7_24 != (a0.size : Int)) = false:=bne_eq_false_iff_eq.mpr c50;clear c50;replace H:=zM H;obtain ⟨t338,A510,H⟩:=H
              try dsimp only at H
              have A51:=Zaa.mk A510;clear A510;replace H:=zM H;obtain ⟨t339,A520,H⟩:=H
              try dsimp only at H
              have A52:=Zaa.mk A520;clear A520;by_cases c53 : t339 = true
              ·subst c53;(have H1 : (some (0,true)) = some (r1,r2):=by rw [if_pos rfl] at H;exact H);clear H;have H:=H1;clear H1;simp only [Option.some.injEq,Prod.mk.injEq] at H;obtain ⟨rfl,rfl⟩:=H;go_wp2_with (first | ((with_reducible refine Zaf (f:=53) rfl ?_);refine Zav (some 133) rfl rfl Tryz.func53 (by kernel_rfl) rfl #[.string x5_10] rfl zL ?_;(with_reducible refine (Zba.calls kj24 x5_10 t338 _ A51.out).mono ?_);rintro e w' ⟨rfl,⟨nd,rfl⟩⟩;refine ⟨_,rfl,?_⟩) | ((with_reducible refine Zaf (f:=54) rfl ?_);refine Zav (some 135) rfl rfl Tryz.func54 (by kernel_rfl) rfl #[.string t338] rfl zL ?_;(with_reducible refine (ZaQ.calls kj24 t338 true _ A52.out).mono ?_);rintro e w' ⟨rfl,⟨nd,rfl⟩⟩;refine ⟨_,rfl,?_⟩));go_ret2;exact ⟨zF,zB⟩
              ·replace c53:=Bool.eq_false_iff.mpr c53;subst c53;have H1:=H;rw [if_neg (show ¬ (false = true) by decide)] at H1;clear H;have H:=H1;clear H1;by_cases c54 : x6_24 > 500
               ·rw [if_pos c54] at H;have c54b0 : decide (500 < x6_24) = true:=decide_eq_true c54;clear c54;simp only [Option.some.injEq,Prod.mk.injEq] at H;obtain ⟨rfl,rfl⟩:=H;go_wp2_with (first | ((with_reducible refine Zaf (f:=53) rfl ?_);refine Zav (some 133) rfl rfl Tryz.func53 (by kernel_rfl) rfl #[.string x5_10] rfl zL ?_;(with_reducible refine (Zba.calls kj24 x5_10 t338 _ A51.out).mono ?_);rintro e w' ⟨rfl,⟨nd,rfl⟩⟩;refine ⟨_,rfl,?_⟩) | ((with_reducible refine Zaf (f:=54) rfl ?_);refine Zav (some 135) rfl rfl Tryz.func54 (by kernel_rfl) rfl #[.string t338] rfl zL ?_;(with_reducible refine (ZaQ.calls kj24 t338 false _ A52.out).mono ?_);rintro e w' ⟨rfl,⟨nd,rfl⟩⟩;refine ⟨_,rfl,?_⟩));go_ret2;exact ⟨zF,zB⟩
               ·rw [if_neg c54] at H;have c54b0 : decide (500 < x6_24) = false:=decide_eq_false c54;clear c54;by_cases c55 : x6_24 < (-500)
                ·rw [if_pos c55] at H;have c55b0:=decide_eq_true c55;clear c55;simp only [Option.some.injEq,Prod.mk.injEq] at H;obtain ⟨rfl,rfl⟩:=H;go_wp2_with (first | ((with_reducible refine Zaf (f:=53) rfl ?_);refine Zav (some 133) rfl rfl Tryz.func53 (by kernel_rfl) rfl #[.string x5_10] rfl zL ?_;(with_reducible refine (Zba.calls kj24 x5_10 t338 _ A51.out).mono ?_);rintro e w' ⟨rfl,⟨nd,rfl⟩⟩;refine ⟨_,rfl,?_⟩) | ((with_reducible refine Zaf (f:=54) rfl ?_);refine Zav (some 135) rfl rfl Tryz.func54 (by kernel_rfl) rfl #[.string t338] rfl zL ?_;(with_reducible refine (ZaQ.calls kj24 t338 false _ A52.out).mono ?_);rintro e w' ⟨rfl,⟨nd,rfl⟩⟩;refine ⟨_,rfl,?_⟩));go_ret2;exact ⟨zF,zB⟩
                ·rw [if_neg c55] at H;have c55b0:=decide_eq_false c55;clear c55;replace H:=zM H;obtain ⟨t340,A560,H⟩:=H;replace H : (some (t340,true)) = some (r1,r2):=H;have A56:=Zaa.mk A560;clear A560;simp only [Option.some.injEq,Prod.mk.injEq] at H;obtain ⟨rfl,rfl⟩:=H;go_wp2_with (first | ((with_reducible refine Zaf (f:=53) rfl ?_);refine Zav (some 133) rfl rfl Tryz.func53 (by kernel_rfl) rfl #[.string x5_10] rfl zL ?_;(with_reducible refine (Zba.calls kj24 x5_10 t338 _ A51.out).mono ?_);rintro e w' ⟨rfl,⟨nd,rfl⟩⟩;refine ⟨_,rfl,?_⟩) | ((with_reducible refine Zaf (f:=54) rfl ?_);refine Zav (some 135) rfl rfl Tryz.func54 (by kernel_rfl) rfl #[.string t338] rfl zL ?_;(with_reducible refine (ZaQ.calls kj24 t338 false _ A52.out).mono ?_);rintro e w' ⟨rfl,⟨nd,rfl⟩⟩;refine ⟨_,rfl,?_⟩) | ((with_reducible refine Zaf (f:=55) rfl ?_);refine Zav (some 142) rfl rfl Tryz.func55 (by kernel_rfl) rfl #[.string t338,.int .i64 x6_24] rfl zL ?_;(with_reducible refine (Zaq.calls kj24 t338 x6_24 t340 _ A56.out).mono ?_);rintro e w57 ⟨rfl,hb⟩;refine ⟨_,rfl,?_⟩;replace HB:=Zaa.mk (Zao zB hb);(try clear hb)));go_ret2;exact ⟨zF,zB⟩
             ·rw [if_neg c50] at H;have c50b0 : (x7_24 == (a0.size : Int)) = false:=beq_eq_false_iff_ne.mpr c50;have c50b1 : (x7_24 != (a0.size : Int)) = true:=bne_iff_ne.mpr c50;simp only [Option.some.injEq,Prod.mk.injEq] at H;obtain ⟨rfl,rfl⟩:=H;go_wp2;go_ret2;exact ⟨zF,zB⟩
    ·rw [if_neg c7] at H;exact absurd H (by simp)
   ·rw [if_neg c6] at H;exact absurd H (by simp)
  ·replace c5:=Bool.eq_false_iff.mpr c5;subst c5;(have H1 : (some (0,false)) = some (r1,r2):=by rw [if_neg (show ¬ (false = true) by decide)] at H;exact H);clear H;have H:=H1;clear H1;simp only [Option.some.injEq,Prod.mk.injEq] at H;obtain ⟨rfl,rfl⟩:=H;go_enter Tryz.func33,Tryz.ntmps33;go_wp2_with (first | ((with_reducible refine Zaf (f:=51) rfl ?_);refine Zav (some 17) rfl rfl Tryz.func51 (by kernel_rfl) rfl #[.string a0,.int .i64 0] rfl zL ?_;(with_reducible refine (ZaD.calls k a0 0 t332 _ A3.out).mono ?_);rintro e w' ⟨rfl,⟨nd,rfl⟩⟩;refine ⟨_,rfl,?_⟩) | ((with_reducible refine Zaf (f:=52) rfl ?_);refine Zav (some 19) rfl rfl Tryz.func52 (by kernel_rfl) rfl #[.int .i64 t332,.int .i64 1,.int .i64 30] rfl zL ?_;(with_reducible refine (Za6.calls t332 1 30 false _ A4.out).mono ?_);rintro e w' ⟨rfl,⟨nd,rfl⟩⟩;refine ⟨_,rfl,?_⟩));go_ret2;exact ⟨zF,zB⟩
end Go.Proofs.YtfoekmfpcahmiabGreatDoor.MFnTokens
