-- by this session's own program mp.py over the kit's printer
import Derived.Test.YtfoekmfpcahmiabGreatDoorSQMFnTokensx6
namespace Go.Proofs.YtfoekmfpcahmiabGreatDoor.MFnTokens
open Go.RowKit YtfoekmfpcahmiabGreatDoorW.PrintWords YtfoekmfpcahmiabGreatDoorW.PrintLast YtfoekmfpcahmiabGreatDoorW.PrintMore
set_option maxHeartbeats 8000000
set_option maxRecDepth 100000
noncomputable section
attribute [local go_sem] ZbL ZbJ ZbZ ZbY Zbw Zbv ZbK ZbI
set_option linter.unusedVariables false
set_option linter.unusedSimpArgs false
mutual
def ZaY.l0 : Nat → ByteArray → List (S30) → Int → Option ((List (S30)) × Int)
 | 0,_,_,_ => none
 | k + 1,x0,x4,x5 => if x5 < (x0.size : Int) then (if 0 ≤ x5 then (if (bt x0 x5) = 32 then (ZaY.j1 k x0 x4 x5 true) else (if (bt x0 x5) = 10 then (ZaY.j1 k x0 x4 x5 true) else (ZaY.j1 k x0 x4 x5 ((bt x0 x5) == 9)))) else (none)) else (some (x4,(-1)))
def ZaY.j1 : Nat → ByteArray → List (S30) → Int → Bool → Option ((List (S30)) × Int)
 | 0,_,_,_,_ => none
 | k + 1,x0,x4,x5,x29 => if x29 = true then (ZaY.l0 k x0 x4 (wrap64 (x5 + 1))) else ((Zbn.f k x0 x5).bind fun bt214 => (if bt214.2.2.2.2 = 0 then (some (([] : List (S30)),x5)) else (if (x4.length : Int) = 200 then (some (([] : List (S30)),x5)) else (if x4.length < 3518437208883 then (ZaY.l0 k x0 (x4 ++ [(⟨bt214.1,bt214.2.1,bt214.2.2.1,bt214.2.2.2.1⟩ : S30)]) (wrap64 (x5 + bt214.2.2.2.2))) else (none)))))
end
def ZaY.f (k : Nat) (a0 : ByteArray) : Option ((List (S30)) × Int):=if (a0.size : Int) > 600 then (some (([] : List (S30)),600)) else (ZaY.l0 k a0 (([] : List (S30))) 0)
theorem ZaY.calls (k : Nat) (a0 : ByteArray) (r1 : List (S30)) (r2 : Int) (w : World) (hm : G.ZgJ w) (h : ZaY.f k a0 = some (r1,r2)) :
  Calls Tryz.prog 6 #[.string a0] w fun e w' => ∃ v0_ : Value,e = .returned (.tuple #[v0_,.int .i64 r2]) ∧ Kd.R k30 30 w' w.heap.size (fun _ => True) v0_ r1 ∧ Below w.heap.size w w':=by
 have hu30:=Tryz.underlying30;have HB:=Zaa.mk (Below.refl w.heap.size w);have H : (if (a0.size : Int) > 600 then (some (([] : List (S30)),600)) else (ZaY.l0 k a0 (([] : List (S30))) 0)) = some (r1,r2):=h;clear h;by_cases c2 : (a0.size : Int) > 600
 ·rw [if_pos c2] at H;have c2b0 : decide (600 < (a0.size : Int)) = true:=decide_eq_true c2;have c2b1 : decide (600 < a0.size) = true:=decide_eq_true (by omega);clear c2;simp only [Option.some.injEq,Prod.mk.injEq] at H;obtain ⟨rfl,rfl⟩:=H;go_enter Tryz.func6,Tryz.ntmps6;go_wp2;go_ret2;exact ⟨_,by first | rfl | (simp [ZaF,ZaE] <;> rfl) | (simp [*,ZaF,ZaE] <;> rfl),by first | exact Kd.Zly _ _ _ _ _ | exact Kd.N_nil _ _ _ _ _ | exact Kd.V_nil _ _ _ _ _ | exact Kd.Q_nil _ _ _ _ _ | exact Kd.S_nil _ _ _ _ _,zB⟩
 ·rw [if_neg c2] at H;have c2b0 : decide (600 < (a0.size : Int)) = false:=decide_eq_false c2;have c2b1 : decide (600 < a0.size) = false:=decide_eq_false (by omega);clear c2;obtain ⟨y211,hy211⟩ : ∃ y_ : List (S30),y_ = (([] : List (S30))):=⟨_,rfl⟩;replace H : (ZaY.l0 k a0 y211 0) = some (r1,r2):=zT hy211 H;have Ny211:=Zaa.mk hy211;clear hy211;have H':=Zaa.mk H;clear H;go_enter Tryz.func6,Tryz.ntmps6;go_wp2_with (first | ((with_reducible refine Zay (N:=12) rfl ?_);(try (refine Zcc (by rfl) ?_;dsimp only));refine Kd.Zck k30 _ 30 ?hg (N:=12) ?hd (xs:=([] : List (S30))) (inner:=[]) (ok:=fun _ => True) (okp:=fun _ => True) ?hr ?hp (fun _ hk => hk) trivial (Below.refl _ _) (Nat.le_refl _) (by simp) ?_;(case hd => rfl);(case hg => rfl);(case hr => first | (go_simp;done) | (go_simp;rfl));(case hp => exact (Reps.none _ _));intro v212 w3 ho4 hb hg_ hnew_;clear hg_ hnew_;(first | rw [← Ny211.out] at ho4 | (simp only [Int.reduceToNat] at ho4;rw [← Ny211.out] at ho4));have n0_:=Zaa.mk (Kd.Zbk ho4 (Zaw zB));have n1_:=Zaa.mk (Zao zB hb);clear HB;have HO213:=n0_;have HB:=n1_;clear n0_ n1_;clear hb ho4));go_loopg [4,5] k (fun kq v4 v5 w' => ∃ (x4_1 : List (S30)) (x5_1 : Int),v5 = .int .i64 x5_1 ∧ Zaa (ZaY.l0 kq a0 x4_1 x5_1 = some (r1,r2)) ∧ Zaa (kq ≤ k) ∧ Zaa (Kd.R k30 30 w' w.heap.size (fun _ => True) v4 x4_1) ∧ Zaa (Below w.heap.size w w'))
  case atStart => exact ⟨(y211),(0),zE,H',⟨Nat.le_refl _⟩,⟨zR HO213.out⟩,⟨zB⟩⟩
  case round =>
   clear H';obtain ⟨x4_1,x5_1,rfl,HA,HK1,HO_4,HB⟩:=hrel
   cases gk with
   | zero => exact absurd HA.out (by simp [ZaY.l0])
   | succ k1 =>
    have H:=HA.out;clear HA;simp only [ZaY.l0] at H;by_cases c5 : x5_1 < (a0.size : Int)
    ·rw [if_pos c5] at H;have c5b0:=decide_eq_true c5;clear c5;by_cases c6 : 0 ≤ x5_1
     ·rw [if_pos c6] at H;have c6b0:=decide_eq_true c6;clear c6;have HC8:=Zaa.mk H;clear H;have p7 : 0 ≤ (x5_1 : Int):=of_decide_eq_true zA;have q7 : x5_1 < (a0.size : Int):=of_decide_eq_true zA;have hx7:=Za8 a0 x5_1;replace p7:=eq_true p7;replace q7:=eq_true q7;go_upto_region 7 with (fail);go_cut [29] (fun v29 wc => ∃ (kq : Nat) (x29_7 : Bool),v29 = .bool x29_7 ∧ Zaa (ZaY.j1 kq a0 x4_1 x5_1 x29_7 = some (r1,r2)) ∧ Zaa (kq ≤ k1) ∧ Zaa (Kd.R k30 30 wc w.heap.size (fun _ => True) u4 x4_1) ∧ Zaa (Below w.heap.size w wc))
      case first =>
       have H:=HC8.out;clear HC8;by_cases c9 : (bt a0 x5_1) = 32
       ·rw [if_pos c9] at H;have c9b0 : ((bt a0 x5_1) == 32) = true:=beq_iff_eq.mpr c9;have c9b1 : ((bt a0 x5_1) != 32) = false:=bne_eq_false_iff_eq.mpr c9;clear c9;(first | rw [c9b0] | (simp only [ZaU,Zbc];rw [c9b0]) | skip);have H':=Zaa.mk H;clear H;go_wp2;go_meet
        case rel => exact ⟨_,(true),zE,H',⟨by have:=HK1.out;first | omega | exact Nat.le_refl _⟩,⟨zR HO_4.out⟩,⟨zB⟩⟩
       ·rw [if_neg c9] at H;have c9b0 : ((bt a0 x5_1) == 32) = false:=beq_eq_false_iff_ne.mpr c9;have c9b1 : ((bt a0 x5_1) != 32) = true:=bne_iff_ne.mpr c9;(first | rw [c9b0] | (simp only [ZaU,Zbc];rw [c9b0]) | skip);by_cases c10 : (bt a0 x5_1) = 10
        ·rw [if_pos c10] at H;have c10b0 : ((bt a0 x5_1) == 10) = true:=beq_iff_eq.mpr c10;have c10b1 : ((bt a0 x5_1) != 10) = false:=bne_eq_false_iff_eq.mpr c10;clear c10;have H':=Zaa.mk H;clear H;go_wp2;go_meet
         case rel => exact ⟨_,(true),zE,H',⟨by have:=HK1.out;first | omega | exact Nat.le_refl _⟩,⟨zR HO_4.out⟩,⟨zB⟩⟩
        ·rw [if_neg c10] at H;have c10b0 : ((bt a0 x5_1) == 10) = false:=beq_eq_false_iff_ne.mpr c10;have c10b1 : ((bt a0 x5_1) != 10) = true:=bne_iff_ne.mpr c10;have H':=Zaa.mk H;clear H;go_wp2;go_meet
         case rel => exact ⟨_,(((bt a0 x5_1) == 9)),zE,H',⟨by have:=HK1.out;first | omega | exact Nat.le_refl _⟩,⟨zR HO_4.out⟩,⟨zB⟩⟩
      case rest =>
       clear HC8
       try clear hx7
       obtain ⟨kq,x29_7,rfl,HA,HJ7,HO_4,HB⟩:=hcut
       cases kq with
       | zero => exact absurd HA.out (by simp [ZaY.j1])
       | succ kj7 =>
        have H:=HA.out;clear HA;simp only [ZaY.j1] at H;by_cases c11 : x29_7 = true
        ·subst c11;have H1:=H;rw [if_pos rfl] at H1;clear H;have H:=H1;clear H1;have H':=Zaa.mk H;clear H;go_wp2;go_roundg kj7
         case measure => have:=HK1.out;have:=HJ7.out;omega
         case rel => exact ⟨(x4_1),(wrap64 (x5_1 + 1)),zE,H',⟨by have:=HK1.out;have:=HJ7.out;omega⟩,⟨zR HO_4.out⟩,⟨zB⟩⟩
        ·replace c11:=Bool.eq_false_iff.mpr c11;subst c11;have H1:=H;rw [if_neg (show ¬ (false = true) by decide)] at H1;clear H;have H:=H1;clear H1;replace H:=zM H;obtain ⟨⟨t214,t215,t216,t217,t218⟩,A120,H⟩:=H
         try dsimp only at H
         have A12:=Zaa.mk A120;clear A120;have HH:=Zaa.mk H;clear H;go_upto_region 10 with (first | ((with_reducible refine Zaf (f:=11) rfl ?_);refine Zav (some 35) rfl rfl Tryz.func11 (by kernel_rfl) rfl #[.string a0,.int .i64 x5_1] rfl zL ?_;(with_reducible refine (Zbn.calls kj7 a0 x5_1 t214 t215 t216 t217 t218 _ (hm.below zC) A12.out).mono ?_);rintro e w14 ⟨rfl,hb⟩;refine ⟨_,rfl,?_⟩;replace HO_4:=Zaa.mk (Kd.Zet (zR HO_4.out) hb);replace HB:=Zaa.mk (Zao zB hb);(try clear hb)) | ((with_reducible refine Zay (N:=7) rfl ?_);refine G.ZcD (N:=7) ?hg ?hg2 ?hd ?hd2 (x:=.tmp 36) (cs := #[.int .i64 0,.string (⟨#[]⟩ : ByteArray),.int .u64 0,.int .i64 0]) (cs' := #[.int .i64 t214,.string t215,.int .u64 t216,.int .i64 t217]) (t:=30) ?hr rfl ?hx ?hN ?hi rfl ?h1 ?_;(case hd => rfl);(case hd2 => rfl);(case hg => rfl);(case hg2 => rfl);(case hr => first | (go_simp;done) | (go_simp;rfl));(case hx => intro _;rfl);(case hN => intro _;rfl);(case hi => kernel_rfl);(case h1 => simp [Value.oneCell']);intro gb hg w19 hbox hb;replace HO_4:=Zaa.mk (Kd.Zet HO_4.out hb);replace HB:=Zaa.mk (Zao HB.out hb);clear hg hb));have H:=HH.out;clear HH;by_cases q : t218 = 0
         ·rw [if_pos q] at H;have qb : (t218 == 0) = true:=beq_iff_eq.mpr q;clear hbox;simp only [Option.some.injEq,Prod.mk.injEq] at H;obtain ⟨rfl,rfl⟩:=H;go_wp2;go_ret2;exact ⟨_,by first | rfl | (simp [ZaF,ZaE] <;> rfl) | (simp [*,ZaF,ZaE] <;> rfl),Kd.Zly _ _ _ _ _,zB⟩
         rw [if_neg q] at H;have qb : (t218 == 0) = false:=beq_eq_false_iff_ne.mpr q;by_cases p : (x4_1.length : Int) = 200
         ·rw [if_pos p] at H;have pb : ((x4_1.length : Int) == 200) = true:=beq_iff_eq.mpr p;clear hbox;obtain ⟨Ao,co,eo⟩:=Kd.Zbs HO_4.out;cases eo;simp only [Option.some.injEq,Prod.mk.injEq] at H;obtain ⟨rfl,rfl⟩:=H;go_wp2;go_ret2;exact ⟨_,by first | rfl | (simp [ZaF,ZaE] <;> rfl) | (simp [*,ZaF,ZaE] <;> rfl),Kd.Zly _ _ _ _ _,zB⟩
         rw [if_neg p] at H;have pb : ((x4_1.length : Int) == 200) = false:=beq_eq_false_iff_ne.mpr p;by_cases lm : x4_1.length < 3518437208883;rotate_left
         ·rw [if_neg lm] at H;cases H
         rw [if_pos lm] at H;have LM:=Zaa.mk lm;obtain ⟨y,hy⟩ : ∃ y_ : List (S30),y_ = (x4_1 ++ [(⟨t214,t215,t216,t217⟩ : S30)]):=⟨_,rfl⟩;rw [← hy] at H;have Ny:=Zaa.mk hy;have H':=Zaa.mk H;clear H hy lm;obtain ⟨Ao,co,eo⟩:=Kd.Zbs HO_4.out;cases eo;have hz0 : w19.cell? ⟨gb,0,none⟩ = some (.int .i64 t214):=(Zbq hbox 0).trans rfl;have hz1 : w19.cell? ⟨gb,1,none⟩ = some (.string t215):=(Zbq hbox 1).trans rfl;have hz2 : w19.cell? ⟨gb,2,none⟩ = some (.int .u64 t216):=(Zbq hbox 2).trans rfl;have hz3 : w19.cell? ⟨gb,3,none⟩ = some (.int .i64 t217):=(Zbq hbox 3).trans rfl;clear hbox;go_wp2_with (first | ((with_reducible refine ZbN (b:=.append) (xs := #[.tmp 46,.tmp 48]) rfl ?_);(try (refine Zcc (by rfl) ?_;dsimp only));at_builtin;refine Kd.ZcL k30 (w0:=w) w.heap.size rfl (.tmp 46) (.tmp 48) 25 30 (.agg #[(.int .i64 0),(.string ⟨#[]⟩),(.int .u64 0),(.int .i64 0)]) 40 rfl Tryz.underlying25 Zpc rfl (by decide) (by omega) (.slice Ao x4_1.length co) x4_1 (⟨t214,t215,t216,t217⟩ : S30) [.int .i64 t214,.string t215,.int .u64 t216,.int .i64 t217] (fun _ => True) (fun _ => False) rfl (by first | (go_simp;done) | (go_simp;rfl)) ?aP (fun _ hk => hk.elim) ?aF ?aO ?aB ?aS ?aL ?_;(case aP => exact ZmX _ _ _ (⟨t214,t215,t216,t217⟩ : S30));(case aB => exact zB);(case aF => exact (fun _ _ => trivial));(case aO => exact (zR HO_4.out));(case aS => exact (Zaw zB));(case aL => have:=LM.out;omega);intro v375 w35 ho hb hg hat;rw [← Ny.out] at ho;have n1_:=Zaa.mk hb;have HO:=Zaa.mk ho;clear HB HO_4;have HB:=n1_;clear n1_ ho hb hg hat));go_roundg kj7
         case measure => have:=HK1.out;have:=HJ7.out;omega
         case rel => exact ⟨y,wrap64 (x5_1 + t218),rfl,H',⟨by have:=HK1.out;have:=HJ7.out;omega⟩,⟨HO.out⟩,⟨zB⟩⟩
     ·rw [if_neg c6] at H;exact absurd H (by simp)
    ·rw [if_neg c5] at H;have c5b0:=decide_eq_false c5;clear c5;simp only [Option.some.injEq,Prod.mk.injEq] at H;obtain ⟨rfl,rfl⟩:=H;go_wp2;go_ret2;exact ⟨_,by first | rfl | (simp [ZaF,ZaE] <;> rfl) | (simp [*,ZaF,ZaE] <;> rfl),by (with_reducible repeat (first | apply Kd.Zby | apply Kd.Zbx | apply Kd.ZbU));exact HO_4.out,zB⟩
def Zbt.f (a0 : Int) : Option (Bool):=if a0 ≥ 97 then (if a0 ≤ 122 then (some true) else (if a0 ≥ 65 then (if a0 ≤ 90 then (some true) else (some (a0 == 95))) else (some (a0 == 95)))) else (if a0 ≥ 65 then (if a0 ≤ 90 then (some true) else (some (a0 == 95))) else (some (a0 == 95)))
theorem Zbt.calls (a0 : Int) (r : Bool) (w : World) (h : Zbt.f a0 = some r) :
  Calls Tryz.prog 27 #[.int .u8 a0] w fun e w' => e = .returned (.bool r) ∧ ZaB w w':=by
 have H : (if a0 ≥ 97 then (if a0 ≤ 122 then (some true) else (if a0 ≥ 65 then (if a0 ≤ 90 then (some true) else (some (a0 == 95))) else (some (a0 == 95)))) else (if a0 ≥ 65 then (if a0 ≤ 90 then (some true) else (some (a0 == 95))) else (some (a0 == 95)))) = some r:=h;clear h;by_cases c2 : a0 ≥ 97
 ·rw [if_pos c2] at H;have c2b0 : decide (97 ≤ a0) = true:=decide_eq_true c2;clear c2;by_cases c3 : a0 ≤ 122
  ·rw [if_pos c3] at H;have c3b0:=decide_eq_true c3;clear c3;obtain rfl:=Option.some.inj H;go_enter Tryz.func27,Tryz.ntmps27;go_wp2;go_ret;exact ⟨zE,zW⟩
  ·rw [if_neg c3] at H;have c3b0:=decide_eq_false c3;clear c3;by_cases c4 : a0 ≥ 65
   ·rw [if_pos c4] at H;have c4b0 : decide (65 ≤ a0) = true:=decide_eq_true c4;clear c4;by_cases c5 : a0 ≤ 90
    ·rw [if_pos c5] at H;have c5b0:=decide_eq_true c5;clear c5;obtain rfl:=Option.some.inj H;go_enter Tryz.func27,Tryz.ntmps27;go_wp2;go_ret;exact ⟨zE,zW⟩
    ·rw [if_neg c5] at H;have c5b0:=decide_eq_false c5;clear c5;obtain rfl:=Option.some.inj H;go_enter Tryz.func27,Tryz.ntmps27;go_wp2;go_ret;exact ⟨zE,zW⟩
   ·rw [if_neg c4] at H;have c4b0 : decide (65 ≤ a0) = false:=decide_eq_false c4;clear c4;obtain rfl:=Option.some.inj H;go_enter Tryz.func27,Tryz.ntmps27;go_wp2;go_ret;exact ⟨zE,zW⟩
 ·rw [if_neg c2] at H;have c2b0 : decide (97 ≤ a0) = false:=decide_eq_false c2;clear c2;by_cases c6 : a0 ≥ 65
  ·rw [if_pos c6] at H;have c6b0 : decide (65 ≤ a0) = true:=decide_eq_true c6;clear c6;by_cases c7 : a0 ≤ 90
   ·rw [if_pos c7] at H;have c7b0:=decide_eq_true c7;clear c7;obtain rfl:=Option.some.inj H;go_enter Tryz.func27,Tryz.ntmps27;go_wp2;go_ret;exact ⟨zE,zW⟩
   ·rw [if_neg c7] at H;have c7b0:=decide_eq_false c7;clear c7;obtain rfl:=Option.some.inj H;go_enter Tryz.func27,Tryz.ntmps27;go_wp2;go_ret;exact ⟨zE,zW⟩
  ·rw [if_neg c6] at H;have c6b0 : decide (65 ≤ a0) = false:=decide_eq_false c6;clear c6;obtain rfl:=Option.some.inj H;go_enter Tryz.func27,Tryz.ntmps27;go_wp2;go_ret;exact ⟨zE,zW⟩
def Za1.f (a0 : Int) : Option (Bool):=if a0 ≥ 48 then (some (decide (a0 ≤ 57))) else (some false)
theorem Za1.calls (a0 : Int) (r : Bool) (w : World) (h : Za1.f a0 = some r) :
  Calls Tryz.prog 31 #[.int .u8 a0] w fun e w' => e = .returned (.bool r) ∧ ZaB w w':=by
 have H : (if a0 ≥ 48 then (some (decide (a0 ≤ 57))) else (some false)) = some r:=h;clear h;by_cases c2 : a0 ≥ 48
 ·rw [if_pos c2] at H;have c2b0 : decide (48 ≤ a0) = true:=decide_eq_true c2;clear c2;obtain rfl:=Option.some.inj H;go_enter Tryz.func31,Tryz.ntmps31;go_wp2;go_ret;exact ⟨zE,zW⟩
 ·rw [if_neg c2] at H;have c2b0 : decide (48 ≤ a0) = false:=decide_eq_false c2;clear c2;obtain rfl:=Option.some.inj H;go_enter Tryz.func31,Tryz.ntmps31;go_wp2;go_ret;exact ⟨zE,zW⟩
def Zbg.l0 : Nat → ByteArray → Int → Int → Option (Int)
 | 0,_,_,_ => none
 | k + 1,x0,x1,x5 => if (wrap64 (x1 + x5)) < (x0.size : Int) then (if 0 ≤ (wrap64 (x1 + x5)) then ((Zbt.f (bt x0 (wrap64 (x1 + x5)))).bind fun t223 => (if t223 = true then (Zbg.l0 k x0 x1 (wrap64 (x5 + 1))) else (if x5 > 0 then ((Za1.f (bt x0 (wrap64 (x1 + x5)))).bind fun t224 => (if t224 = true then (Zbg.l0 k x0 x1 (wrap64 (x5 + 1))) else (some x5))) else (some x5)))) else (none)) else (some x5)
def Zbg.f (k : Nat) (a0 : ByteArray) (a1 : Int) : Option (Int):=Zbg.l0 k a0 a1 0
theorem Zbg.calls (k : Nat) (a0 : ByteArray) (a1 : Int) (r : Int) (w : World) (h : Zbg.f k a0 a1 = some r) :
  Calls Tryz.prog 28 #[.string a0,.int .i64 a1] w fun e w' => e = .returned (.int .i64 r) ∧ ZaB w w':=by
 have H : (Zbg.l0 k a0 a1 0) = some r:=h;clear h;have H':=Zaa.mk H;clear H;go_enter Tryz.func28,Tryz.ntmps28;go_wp2;go_loopg [5] k (fun kq v5 w' => ∃ (x5_1 : Int),v5 = .int .i64 x5_1 ∧ Zaa (Zbg.l0 kq a0 a1 x5_1 = some r) ∧ Zaa (kq ≤ k) ∧ ZaB w w')
 case atStart => exact ⟨(0),zE,H',⟨Nat.le_refl _⟩,zW⟩
 case round =>
  clear H';obtain ⟨x5_1,rfl,HA,HK1,⟨m1,rfl⟩⟩:=hrel
  cases gk with
  | zero => exact absurd HA.out (by simp [Zbg.l0])
  | succ k1 =>
   have H:=HA.out;clear HA;simp only [Zbg.l0] at H;by_cases c3 : (wrap64 (a1 + x5_1)) < (a0.size : Int)
   ·rw [if_pos c3] at H;have c3b0:=decide_eq_true c3;clear c3;obtain ⟨ji4,hji4⟩ : ∃ j_ : Int,(wrap64 (a1 + x5_1)) = j_:=⟨_,rfl⟩
    first | rw [hji4] at H | simp only [hji4] at H
    (try rw [hji4] at c3b0);have hji4w : (IntKind.i64.wrap (a1 + x5_1)) = ji4:=(ZaU _).trans hji4;by_cases c5 : 0 ≤ (ji4)
    ·rw [if_pos c5] at H;have c5b0:=decide_eq_true c5;clear c5;replace H:=zM H;obtain ⟨t223,A70,H⟩:=H
     try dsimp only at H
     have A7:=Zaa.mk A70;clear A70;by_cases c8 : t223 = true
     ·subst c8;have H1:=H;rw [if_pos rfl] at H1;clear H;have H:=H1;clear H1;have H':=Zaa.mk H;clear H;have p6 : 0 ≤ ((ji4) : Int):=of_decide_eq_true zA;have q6 : (ji4) < (a0.size : Int):=of_decide_eq_true zA;have hx6:=Za8 a0 (ji4);replace p6:=eq_true p6;replace q6:=eq_true q6;go_wp2_with (first | (go_at_call 27;(with_reducible refine (Zbt.calls (bt a0 (ji4)) true _ A7.out).mono ?_);rintro e w' ⟨rfl,⟨nd,rfl⟩⟩));go_roundg k1
      case measure => have:=HK1.out;omega
      case rel => exact ⟨(wrap64 (x5_1 + 1)),zE,H',⟨by have:=HK1.out;omega⟩,zW⟩
     ·replace c8:=Bool.eq_false_iff.mpr c8;subst c8;have H1:=H;rw [if_neg (show ¬ (false = true) by decide)] at H1;clear H;have H:=H1;clear H1;by_cases c9 : x5_1 > 0
      ·rw [if_pos c9] at H;have c9b0 : decide (0 < x5_1) = true:=decide_eq_true c9;clear c9;replace H:=zM H;obtain ⟨t224,A110,H⟩:=H
       try dsimp only at H
       have A11:=Zaa.mk A110;clear A110;by_cases c12 : t224 = true
       ·subst c12;have H1:=H;rw [if_pos rfl] at H1;clear H;have H:=H1;clear H1;have H':=Zaa.mk H;clear H;have p6 : 0 ≤ ((ji4) : Int):=of_decide_eq_true zA;have q6 : (ji4) < (a0.size : Int):=of_decide_eq_true zA;have hx6:=Za8 a0 (ji4);replace p6:=eq_true p6;replace q6:=eq_true q6;go_wp2_with (first | (go_at_call 27;(with_reducible refine (Zbt.calls (bt a0 (ji4)) false _ A7.out).mono ?_);rintro e w' ⟨rfl,⟨nd,rfl⟩⟩;have p10 : 0 ≤ ((ji4) : Int):=of_decide_eq_true zA;have q10 : (ji4) < (a0.size : Int):=of_decide_eq_true zA;have hx10:=Za8 a0 (ji4);replace p10:=eq_true p10;replace q10:=eq_true q10) | (go_at_call 31;(with_reducible refine (Za1.calls (bt a0 (ji4)) true _ A11.out).mono ?_);rintro e w' ⟨rfl,⟨nd,rfl⟩⟩));go_roundg k1
        case measure => have:=HK1.out;omega
        case rel => exact ⟨(wrap64 (x5_1 + 1)),zE,H',⟨by have:=HK1.out;omega⟩,zW⟩
       ·replace c12:=Bool.eq_false_iff.mpr c12;subst c12;(have H1 : (some x5_1) = some r:=by rw [if_neg (show ¬ (false = true) by decide)] at H;exact H);clear H;have H:=H1;clear H1;obtain rfl:=Option.some.inj H;have p6 : 0 ≤ ((ji4) : Int):=of_decide_eq_true zA;have q6 : (ji4) < (a0.size : Int):=of_decide_eq_true zA;have hx6:=Za8 a0 (ji4);replace p6:=eq_true p6;replace q6:=eq_true q6;go_wp2_with (first | (go_at_call 27;(with_reducible refine (Zbt.calls (bt a0 (ji4)) false _ A7.out).mono ?_);rintro e w' ⟨rfl,⟨nd,rfl⟩⟩;have p10 : 0 ≤ ((ji4) : Int):=of_decide_eq_true zA;have q10 : (ji4) < (a0.size : Int):=of_decide_eq_true zA;have hx10:=Za8 a0 (ji4);replace p10:=eq_true p10;replace q10:=eq_true q10) | (go_at_call 31;(with_reducible refine (Za1.calls (bt a0 (ji4)) false _ A11.out).mono ?_);rintro e w' ⟨rfl,⟨nd,rfl⟩⟩));go_ret;exact ⟨by first | rfl | (simp;done) | (simp only [← hji4] <;> (first | rfl | simp)) | (simp [*];done),zW⟩
      ·rw [if_neg c9] at H;have c9b0 : decide (0 < x5_1) = false:=decide_eq_false c9;clear c9;obtain rfl:=Option.some.inj H;have p6 : 0 ≤ ((ji4) : Int):=of_decide_eq_true zA;have q6 : (ji4) < (a0.size : Int):=of_decide_eq_true zA;have hx6:=Za8 a0 (ji4);replace p6:=eq_true p6;replace q6:=eq_true q6;go_wp2_with (first | (go_at_call 27;(with_reducible refine (Zbt.calls (bt a0 (ji4)) false _ A7.out).mono ?_);rintro e w' ⟨rfl,⟨nd,rfl⟩⟩));go_ret;exact ⟨by first | rfl | (simp;done) | (simp only [← hji4] <;> (first | rfl | simp)) | (simp [*];done),zW⟩
    ·rw [if_neg c5] at H;exact absurd H (by simp)
   ·rw [if_neg c3] at H;have c3b0:=decide_eq_false c3;clear c3;obtain rfl:=Option.some.inj H;go_wp2;go_ret;exact ⟨zE,zW⟩
def ZcZ.f  : Option (List ByteArray):=some (([(⟨#[108,101,116]⟩ : ByteArray),(⟨#[112,114,105,110,116]⟩ : ByteArray),(⟨#[105,102]⟩ : ByteArray),(⟨#[101,108,115,101]⟩ : ByteArray),(⟨#[119,104,105,108,101]⟩ : ByteArray),(⟨#[114,101,116,117,114,110]⟩ : ByteArray),(⟨#[116,104,114,111,119]⟩ : ByteArray),(⟨#[116,114,121]⟩ : ByteArray),(⟨#[99,97,116,99,104]⟩ : ByteArray),(⟨#[102,117,110]⟩ : ByteArray),(⟨#[116,114,117,101]⟩ : ByteArray),(⟨#[102,97,108,115,101]⟩ : ByteArray),(⟨#[110,111,110,101]⟩ : ByteArray)] : List ByteArray))
theorem ZcZ.calls  (r : List ByteArray) (w : World) (h : ZcZ.f  = some r) :
  Calls Tryz.prog 30 #[] w fun e w' => ∃ v0_ : Value,e = .returned (v0_) ∧ Kd.R Kd.string 9 w' w.heap.size (fun _ => True) v0_ r ∧ Below w.heap.size w w':=by
 have HB:=Zaa.mk (Below.refl w.heap.size w);have H : (some (([(⟨#[108,101,116]⟩ : ByteArray),(⟨#[112,114,105,110,116]⟩ : ByteArray),(⟨#[105,102]⟩ : ByteArray),(⟨#[101,108,115,101]⟩ : ByteArray),(⟨#[119,104,105,108,101]⟩ : ByteArray),(⟨#[114,101,116,117,114,110]⟩ : ByteArray),(⟨#[116,104,114,111,119]⟩ : ByteArray),(⟨#[116,114,121]⟩ : ByteArray),(⟨#[99,97,116,99,104]⟩ : ByteArray),(⟨#[102,117,110]⟩ : ByteArray),(⟨#[116,114,117,101]⟩ : ByteArray),(⟨#[102,97,108,115,101]⟩ : ByteArray),(⟨#[110,111,110,101]⟩ : ByteArray)] : List ByteArray))) = some r:=h;clear h;obtain ⟨y225,hy225⟩ : ∃ y_ : List ByteArray,y_ = (([(⟨#[108,101,116]⟩ : ByteArray),(⟨#[112,114,105,110,116]⟩ : ByteArray),(⟨#[105,102]⟩ : ByteArray),(⟨#[101,108,115,101]⟩ : ByteArray),(⟨#[119,104,105,108,101]⟩ : ByteArray),(⟨#[114,101,116,117,114,110]⟩ : ByteArray),(⟨#[116,104,114,111,119]⟩ : ByteArray),(⟨#[116,114,121]⟩ : ByteArray),(⟨#[99,97,116,99,104]⟩ : ByteArray),(⟨#[102,117,110]⟩ : ByteArray),(⟨#[116,114,117,101]⟩ : ByteArray),(⟨#[102,97,108,115,101]⟩ : ByteArray),(⟨#[110,111,110,101]⟩ : ByteArray)] : List ByteArray)):=⟨_,rfl⟩;replace H : (some y225) = some r:=zT hy225 H;have Ny225:=Zaa.mk hy225;clear hy225;obtain rfl:=Option.some.inj H;go_enter Tryz.func30,Tryz.ntmps30;go_wp2_with (first | ((with_reducible refine Zay (N:=1) rfl ?_);refine Kd.Zck Kd.string _ 9 ?hg (N:=1) ?hd (xs:=([(⟨#[108,101,116]⟩ : ByteArray),(⟨#[112,114,105,110,116]⟩ : ByteArray),(⟨#[105,102]⟩ : ByteArray),(⟨#[101,108,115,101]⟩ : ByteArray),(⟨#[119,104,105,108,101]⟩ : ByteArray),(⟨#[114,101,116,117,114,110]⟩ : ByteArray),(⟨#[116,104,114,111,119]⟩ : ByteArray),(⟨#[116,114,121]⟩ : ByteArray),(⟨#[99,97,116,99,104]⟩ : ByteArray),(⟨#[102,117,110]⟩ : ByteArray),(⟨#[116,114,117,101]⟩ : ByteArray),(⟨#[102,97,108,115,101]⟩ : ByteArray),(⟨#[110,111,110,101]⟩ : ByteArray)] : List ByteArray)) (inner:=[.string (⟨#[108,101,116]⟩ : ByteArray),.string (⟨#[112,114,105,110,116]⟩ : ByteArray),.string (⟨#[105,102]⟩ : ByteArray),.string (⟨#[101,108,115,101]⟩ : ByteArray),.string (⟨#[119,104,105,108,101]⟩ : ByteArray),.string (⟨#[114,101,116,117,114,110]⟩ : ByteArray),.string (⟨#[116,104,114,111,119]⟩ : ByteArray),.string (⟨#[116,114,121]⟩ : ByteArray),.string (⟨#[99,97,116,99,104]⟩ : ByteArray),.string (⟨#[102,117,110]⟩ : ByteArray),.string (⟨#[116,114,117,101]⟩ : ByteArray),.string (⟨#[102,97,108,115,101]⟩ : ByteArray),.string (⟨#[110,111,110,101]⟩ : ByteArray)]) (ok:=fun _ => True) (okp:=fun _ => True) ?hr ?hp (fun _ hk => hk) trivial (Below.refl _ _) (Nat.le_refl _) (by simp) ?_;(case hd => rfl);(case hg => rfl);(case hr => first | (go_simp;done) | (go_simp;rfl));(case hp => exact (Reps.one (show Kd.M Kd.string _ _ _ (⟨#[108,101,116]⟩ : ByteArray) [.string (⟨#[108,101,116]⟩ : ByteArray)] from rfl) (Reps.one (show Kd.M Kd.string _ _ _ (⟨#[112,114,105,110,116]⟩ : ByteArray) [.string (⟨#[112,114,105,110,116]⟩ : ByteArray)] from rfl) (Reps.one (show Kd.M Kd.string _ _ _ (⟨#[105,102]⟩ : ByteArray) [.string (⟨#[105,102]⟩ : ByteArray)] from rfl) (Reps.one (show Kd.M Kd.string _ _ _ (⟨#[101,108,115,101]⟩ : ByteArray) [.string (⟨#[101,108,115,101]⟩ : ByteArray)] from rfl) (Reps.one (show Kd.M Kd.string _ _ _ (⟨#[119,104,105,108,101]⟩ : ByteArray) [.string (⟨#[119,104,105,108,101]⟩ : ByteArray)] from rfl) (Reps.one (show Kd.M Kd.string _ _ _ (⟨#[114,101,116,117,114,110]⟩ : ByteArray) [.string (⟨#[114,101,116,117,114,110]⟩ : ByteArray)] from rfl) (Reps.one (show Kd.M Kd.string _ _ _ (⟨#[116,104,114,111,119]⟩ : ByteArray) [.string (⟨#[116,104,114,111,119]⟩ : ByteArray)] from rfl) (Reps.one (show Kd.M Kd.string _ _ _ (⟨#[116,114,121]⟩ : ByteArray) [.string (⟨#[116,114,121]⟩ : ByteArray)] from rfl) (Reps.one (show Kd.M Kd.string _ _ _ (⟨#[99,97,116,99,104]⟩ : ByteArray) [.string (⟨#[99,97,116,99,104]⟩ : ByteArray)] from rfl) (Reps.one (show Kd.M Kd.string _ _ _ (⟨#[102,117,110]⟩ : ByteArray) [.string (⟨#[102,117,110]⟩ : ByteArray)] from rfl) (Reps.one (show Kd.M Kd.string _ _ _ (⟨#[116,114,117,101]⟩ : ByteArray) [.string (⟨#[116,114,117,101]⟩ : ByteArray)] from rfl) (Reps.one (show Kd.M Kd.string _ _ _ (⟨#[102,97,108,115,101]⟩ : ByteArray) [.string (⟨#[102,97,108,115,101]⟩ : ByteArray)] from rfl) (Reps.one (show Kd.M Kd.string _ _ _ (⟨#[110,111,110,101]⟩ : ByteArray) [.string (⟨#[110,111,110,101]⟩ : ByteArray)] from rfl) (Reps.none _ _)))))))))))))));intro v226 w1 ho2 hb hg_ hnew_;clear hg_ hnew_;(first | rw [← Ny225.out] at ho2 | (simp only [Int.reduceToNat] at ho2;rw [← Ny225.out] at ho2));have n0_:=Zaa.mk (Kd.Zbk ho2 (Zaw zB));have n1_:=Zaa.mk (Zao zB hb);clear HB;have HO227:=n0_;have HB:=n1_;clear n0_ n1_;clear hb ho2));go_ret;exact ⟨_,by first | rfl | (simp [ZaF,ZaE] <;> rfl) | (simp [*,ZaF,ZaE] <;> rfl),by (with_reducible repeat (first | apply Kd.Zby | apply Kd.Zbx | apply Kd.ZbU));exact HO227.out,zB⟩
def ZaD.l0 : Nat → ByteArray → Int → Int → Option (Int)
 | 0,_,_,_ => none
 | k + 1,x0,x1,x5 => if (wrap64 (x1 + x5)) < (x0.size : Int) then (if 0 ≤ (wrap64 (x1 + x5)) then (if (bt x0 (wrap64 (x1 + x5))) ≥ 48 then (if (bt x0 (wrap64 (x1 + x5))) ≤ 57 then (ZaD.l0 k x0 x1 (wrap64 (x5 + 1))) else (some x5)) else (some x5)) else (none)) else (some x5)
def ZaD.f (k : Nat) (a0 : ByteArray) (a1 : Int) : Option (Int):=ZaD.l0 k a0 a1 0
theorem ZaD.calls (k : Nat) (a0 : ByteArray) (a1 : Int) (r : Int) (w : World) (h : ZaD.f k a0 a1 = some r) :
  Calls Tryz.prog 51 #[.string a0,.int .i64 a1] w fun e w' => e = .returned (.int .i64 r) ∧ ZaB w w':=by
 have H : (ZaD.l0 k a0 a1 0) = some r:=h;clear h;have H':=Zaa.mk H;clear H;go_enter Tryz.func51,Tryz.ntmps51;go_wp2;go_loopg [5] k (fun kq v5 w' => ∃ (x5_1 : Int),v5 = .int .i64 x5_1 ∧ Zaa (ZaD.l0 kq a0 a1 x5_1 = some r) ∧ Zaa (kq ≤ k) ∧ ZaB w w')
 case atStart => exact ⟨(0),zE,H',⟨Nat.le_refl _⟩,zW⟩
 case round =>
  clear H';obtain ⟨x5_1,rfl,HA,HK1,⟨m1,rfl⟩⟩:=hrel
  cases gk with
  | zero => exact absurd HA.out (by simp [ZaD.l0])
  | succ k1 =>
   have H:=HA.out;clear HA;simp only [ZaD.l0] at H;by_cases c3 : (wrap64 (a1 + x5_1)) < (a0.size : Int)
   ·rw [if_pos c3] at H;have c3b0:=decide_eq_true c3;clear c3;obtain ⟨ji4,hji4⟩ : ∃ j_ : Int,(wrap64 (a1 + x5_1)) = j_:=⟨_,rfl⟩
    first | rw [hji4] at H | simp only [hji4] at H
    (try rw [hji4] at c3b0);have hji4w : (IntKind.i64.wrap (a1 + x5_1)) = ji4:=(ZaU _).trans hji4;by_cases c5 : 0 ≤ (ji4)
    ·rw [if_pos c5] at H;have c5b0:=decide_eq_true c5;clear c5;by_cases c7 : (bt a0 (ji4)) ≥ 48
     ·rw [if_pos c7] at H;have c7b0 : decide (48 ≤ (bt a0 (ji4))) = true:=decide_eq_true c7;clear c7;by_cases c9 : (bt a0 (ji4)) ≤ 57
      ·rw [if_pos c9] at H;have c9b0:=decide_eq_true c9;clear c9;have H':=Zaa.mk H;clear H;have p6 : 0 ≤ ((ji4) : Int):=of_decide_eq_true zA;have q6 : (ji4) < (a0.size : Int):=of_decide_eq_true zA;have hx6:=Za8 a0 (ji4);replace p6:=eq_true p6;replace q6:=eq_true q6;have p8 : 0 ≤ ((ji4) : Int):=of_decide_eq_true zA;have q8 : (ji4) < (a0.size : Int):=of_decide_eq_true zA;have hx8:=Za8 a0 (ji4);replace p8:=eq_true p8;replace q8:=eq_true q8;go_wp2;go_roundg k1
       case measure => have:=HK1.out;omega
       case rel => exact ⟨(wrap64 (x5_1 + 1)),zE,H',⟨by have:=HK1.out;omega⟩,zW⟩
      ·rw [if_neg c9] at H;have c9b0:=decide_eq_false c9;clear c9;obtain rfl:=Option.some.inj H;have p6 : 0 ≤ ((ji4) : Int):=of_decide_eq_true zA;have q6 : (ji4) < (a0.size : Int):=of_decide_eq_true zA;have hx6:=Za8 a0 (ji4);replace p6:=eq_true p6;replace q6:=eq_true q6;have p8 : 0 ≤ ((ji4) : Int):=of_decide_eq_true zA;have q8 : (ji4) < (a0.size : Int):=of_decide_eq_true zA;have hx8:=Za8 a0 (ji4);replace p8:=eq_true p8;replace q8:=eq_true q8;go_wp2;go_ret;exact ⟨by first | rfl | (simp;done) | (simp only [← hji4] <;> (first | rfl | simp)) | (simp [*];done),zW⟩
     ·rw [if_neg c7] at H;have c7b0 : decide (48 ≤ (bt a0 (ji4))) = false:=decide_eq_false c7;clear c7;obtain rfl:=Option.some.inj H;have p6 : 0 ≤ ((ji4) : Int):=of_decide_eq_true zA;have q6 : (ji4) < (a0.size : Int):=of_decide_eq_true zA;have hx6:=Za8 a0 (ji4);replace p6:=eq_true p6;replace q6:=eq_true q6;go_wp2;go_ret;exact ⟨by first | rfl | (simp;done) | (simp only [← hji4] <;> (first | rfl | simp)) | (simp [*];done),zW⟩
    ·rw [if_neg c5] at H;exact absurd H (by simp)
   ·rw [if_neg c3] at H;have c3b0:=decide_eq_false c3;clear c3;obtain rfl:=Option.some.inj H;go_wp2;go_ret;exact ⟨zE,zW⟩
end
end Go.Proofs.YtfoekmfpcahmiabGreatDoor.MFnTokens
