-- by this session's own program mp.py over the kit's printer
import Derived.Test.YtkjpelgdppmbjaaGreatDoorSWZip
import Derived.Test.YtkjpelgdppmbjaaGreatDoorSWMFnExactShowNumberx0
import Derived.Test.YtkjpelgdppmbjaaGreatDoorSWMFnExactShowNumberx1
import Derived.Test.YtkjpelgdppmbjaaGreatDoorSWMFnExactShowNumberx2
namespace Go.Proofs.YtkjpelgdppmbjaaGreatDoor.MFnExactShowNumber
open Go.RowKit YtkjpelgdppmbjaaGreatDoorW.PrintWords YtkjpelgdppmbjaaGreatDoorW.PrintLast YtkjpelgdppmbjaaGreatDoorW.PrintMore
set_option maxHeartbeats 8000000
set_option maxRecDepth 100000
attribute [local go_sem] max2_int min2_int max_two min_two max_three min_three max_four min_four
set_option linter.unusedVariables false
set_option linter.unusedSimpArgs false

mutual
def spec_l06Text.l0 : Nat → List Int → List Int → Int → Option (ByteArray)
 | 0, _, _, _ => none
 | k + 1, x0, x3, x4 => if x4 < (x0.length : Int) then (if 0 ≤ x4 then (spec_l06Text.l1 k x0 x3 x4 (rd x0 x4) 0) else (none)) else ((spec_l06Trim.f k (strOfNums x3)).bind fun t158 => (some t158))
def spec_l06Text.l1 : Nat → List Int → List Int → Int → Int → Int → Option (ByteArray)
 | 0, _, _, _, _, _ => none
 | k + 1, x0, x3, x4, x5, x6 => if x6 < 9 then (if 0 ≤ (wrap64 ((wrap64 ((wrap64 (9 * (wrap64 ((x0.length : Int) - x4)))) - 1)) - x6)) then (if (wrap64 ((wrap64 ((wrap64 (9 * (wrap64 ((x0.length : Int) - x4)))) - 1)) - x6)) < (x3.length : Int) then (spec_l06Text.l1 k x0 (x3.set ((wrap64 ((wrap64 ((wrap64 (9 * (wrap64 ((x0.length : Int) - x4)))) - 1)) - x6)) : Int).toNat ((wrap64 (48 + (Int.tmod x5 10))) % 256)) x4 (wrap64 (Int.tdiv x5 10)) (wrap64 (x6 + 1))) else (none)) else (none)) else (spec_l06Text.l0 k x0 x3 (wrap64 (x4 + 1)))
end
def spec_l06Text.f (k : Nat) (l0 : List Int) : Option (ByteArray) := if 0 ≤ (wrap64 (9 * (l0.length : Int))) then (if (wrap64 (9 * (l0.length : Int)) : Int).toNat ≤ 281474976710656 then (spec_l06Text.l0 k l0 (List.replicate (wrap64 (9 * (l0.length : Int)) : Int).toNat 0) 0) else (none)) else (none)
theorem spec_l06Text.mono_l : ∀ k, (∀ y0 y1 y2, LeO (spec_l06Text.l0 k y0 y1 y2) (spec_l06Text.l0 (k + 1) y0 y1 y2)) ∧ (∀ y0 y1 y2 y3 y4, LeO (spec_l06Text.l1 k y0 y1 y2 y3 y4) (spec_l06Text.l1 (k + 1) y0 y1 y2 y3 y4))
  | 0 => ⟨fun _ _ _ r h => by simp [spec_l06Text.l0] at h, fun _ _ _ _ _ r h => by simp [spec_l06Text.l1] at h⟩
  | k + 1 => by
    obtain ⟨ih0, ih1⟩ := spec_l06Text.mono_l k
    refine ⟨?_, ?_⟩ <;> intros <;> (first | unfold spec_l06Text.l0 | unfold spec_l06Text.l1) <;> with_reducible repeat' first
     | exact ih0 _ _ _
     | exact ih1 _ _ _ _ _
     | exact spec_l06Trim.mono _ _
     | exact LeO.refl _
     | exact LeO.none _
     | refine LeO.ite ?_ ?_
     | refine LeO.bind ?_ (fun _ => ?_)
theorem spec_l06Text.mono : ∀ a0 k, LeO (spec_l06Text.f k a0) (spec_l06Text.f (k + 1) a0) := by
 intro a0 k
 obtain ⟨ih0, ih1⟩ := spec_l06Text.mono_l k
 unfold spec_l06Text.f
 with_reducible repeat' first
 | exact ih0 _ _ _
 | exact ih1 _ _ _ _ _
 | exact spec_l06Trim.mono _ _
 | exact LeO.refl _
 | exact LeO.none _
 | refine LeO.ite ?_ ?_
 | refine LeO.bind ?_ (fun _ => ?_)
theorem spec_l06Text.calls (k : Nat) (A0 : Option Addr) (c0 : Nat) (l0 : List Int) (r : ByteArray) (w : World) (hr0 : Kd.C (Kd.int .i64) w A0 l0.length l0) (hc0 : l0.length ≤ c0) (h : spec_l06Text.f k l0 = some r) :
  Calls Tryz.prog 42 #[.slice A0 l0.length c0] w fun e w' => e = .returned (.string r) ∧ Below w.heap.size w w' := by
 have HR0 := Aside0.mk hr0
 have HC0 := Aside0.mk hc0
 clear hr0 hc0
 have HB := Aside0.mk (Below.refl w.heap.size w)
 have H : (if 0 ≤ (wrap64 (9 * (l0.length : Int))) then (if (wrap64 (9 * (l0.length : Int)) : Int).toNat ≤ 281474976710656 then (spec_l06Text.l0 k l0 (List.replicate (wrap64 (9 * (l0.length : Int)) : Int).toNat 0) 0) else (none)) else (none)) = some r := h
 clear h
 obtain ⟨ji2, hji2⟩ : ∃ j_ : Int, (wrap64 (9 * (l0.length : Int))) = j_ := ⟨_, rfl⟩
 first | rw [hji2] at H | simp only [hji2] at H
 have hji2w : (IntKind.i64.wrap (9 * (l0.length : Int))) = ji2 := (i64_w _).trans hji2
 by_cases c3 : 0 ≤ (ji2)
 ·rw [if_pos c3] at H
  have c3b0 := eq_true c3
  have c3b1 := decide_eq_true c3
  clear c3
  by_cases c4 : (ji2 : Int).toNat ≤ 281474976710656
  ·rw [if_pos c4] at H
   have c4b0 := eq_true c4
   have c4b1 := decide_eq_true c4
   clear c4
   obtain ⟨y155, hy155⟩ : ∃ y_ : List Int, y_ = (List.replicate (ji2 : Int).toNat 0) := ⟨_, rfl⟩
   replace H : (spec_l06Text.l0 k l0 y155 0) = some r := zT hy155 H
   have Ny155 := Aside0.mk hy155
   clear hy155
   have H' := Aside0.mk H
   clear H
   go_enter Tryz.func42, Tryz.ntmps42
   go_wp2_with (first | ((with_reducible refine gate_dst (N := 10) rfl ?_); refine Kd.R_make (Kd.int .u8) _ 5 rfl (N := 10) rfl 22 _ _ rfl ji2 rfl rfl Tryz.underlying22 (.int .u8 0) 1 info5 rfl (by decide) (by omega) 0 (ok := fun _ => True) (okp := fun _ => True) rfl (fun _ hk => hk) trivial (of_decide_eq_true zA) (Nat.le_trans (Nat.mul_le_mul_right _ (of_decide_eq_true zA : ji2.toNat ≤ 281474976710656)) (by omega)) (Below.refl _ _) (Nat.le_refl _) ?_; intro v156 w5 ho6 hb hg_ hnew_; clear hg_ hnew_; (first | rw [← Ny155.out] at ho6 | (simp only [Int.reduceToNat] at ho6; rw [← Ny155.out] at ho6)); have n0_ := Aside0.mk (Kd.R_lower ho6 (below_size zB)); have n1_ := Aside0.mk (below_step zB hb); clear HB; have HO157 := n0_; have HB := n1_; clear n0_ n1_; clear hb ho6))
   go_loopg [4] k (fun kq v4 w' => ∃ (x3_1 : List Int) (x4_1 : Int), v4 = .int .i64 x4_1 ∧ Aside0 (spec_l06Text.l0 kq l0 x3_1 x4_1 = some r) ∧ Aside0 (kq ≤ k) ∧ Aside0 (Kd.R (Kd.int .u8) 5 w' w.heap.size (fun _ => True) v156 x3_1) ∧ Aside0 (Below w.heap.size w w'))
   case atStart => exact ⟨(y155), (0), zE, H', ⟨Nat.le_refl _⟩, ⟨zR HO157.out⟩, ⟨zB⟩⟩
   case round =>
    clear H'
    obtain ⟨x3_1, x4_1, rfl, HA, HK1, HO_3, HB⟩ := hrel
    cases gk with
    | zero => exact absurd HA.out (by simp [spec_l06Text.l0])
    | succ k1 =>
     have H := HA.out
     clear HA
     simp only [spec_l06Text.l0] at H
     by_cases c7 : x4_1 < (l0.length : Int)
     ·rw [if_pos c7] at H
      have c7b0 := decide_eq_true c7
      clear c7
      by_cases c8 : 0 ≤ x4_1
      ·rw [if_pos c8] at H
       have c8b0 := decide_eq_true c8
       clear c8
       have H' := Aside0.mk H
       clear H
       have p159 : 0 ≤ (x4_1 : Int) := of_decide_eq_true zA
       have q159 : x4_1 < (l0.length : Int) := of_decide_eq_true zA
       obtain ⟨ad159, e159, hx159_0⟩ := Kd.at_int HR0.out x4_1 p159 q159
       cases e159
       replace hx159_0 := (HB.out.cell (World.block_lt_of_cell? w _ hx159_0)).trans hx159_0
       replace p159 := eq_true p159
       replace q159 := eq_true q159
       go_wp2
       go_loopg [5, 6] k1 (fun kq v5 v6 w' => ∃ (x3_2 : List Int) (x5_2 : Int) (x6_2 : Int), v5 = .int .i64 x5_2 ∧ v6 = .int .i64 x6_2 ∧ Aside0 (spec_l06Text.l1 kq l0 x3_2 x4_1 x5_2 x6_2 = some r) ∧ Aside0 (kq ≤ k1) ∧ Aside0 (Kd.R (Kd.int .u8) 5 w' w.heap.size (fun _ => True) v156 x3_2) ∧ Aside0 (Below w.heap.size w w'))
       case atStart => exact ⟨(x3_1), (rd l0 x4_1), (0), zE, zE, H', ⟨Nat.le_refl _⟩, ⟨zR HO_3.out⟩, ⟨zB⟩⟩
       case round =>
        clear H'
        try clear hx1
        try clear hx159_0
        obtain ⟨x3_2, x5_2, x6_2, rfl, rfl, HA, HK2, HO_3, HB⟩ := hrel
        cases gk with
        | zero => exact absurd HA.out (by simp [spec_l06Text.l1])
        | succ k2 =>
         have H := HA.out
         clear HA
         simp only [spec_l06Text.l1] at H
         by_cases c9 : x6_2 < 9
         ·rw [if_pos c9] at H
          have c9b0 := decide_eq_true c9
          clear c9
          obtain ⟨ji10, hji10⟩ : ∃ j_ : Int, (wrap64 ((wrap64 ((wrap64 (9 * (wrap64 ((l0.length : Int) - x4_1)))) - 1)) - x6_2)) = j_ := ⟨_, rfl⟩
          first | rw [hji10] at H | simp only [hji10] at H
          have hji10w : (IntKind.i64.wrap ((wrap64 ((wrap64 (9 * (wrap64 ((l0.length : Int) - x4_1)))) - 1)) - x6_2)) = ji10 := (i64_w _).trans hji10
          by_cases c11 : 0 ≤ (ji10)
          ·rw [if_pos c11] at H
           have c11b0 := decide_eq_true c11
           clear c11
           by_cases c12 : (ji10) < (x3_2.length : Int)
           ·rw [if_pos c12] at H
            have c12b0 := decide_eq_true c12
            clear c12
            obtain ⟨y160, hy160⟩ : ∃ y_ : List Int, y_ = (x3_2.set ((ji10) : Int).toNat ((wrap64 (48 + (Int.tmod x5_2 10))) % 256)) := ⟨_, rfl⟩
            replace H : (spec_l06Text.l1 k2 l0 y160 x4_1 (wrap64 (Int.tdiv x5_2 10)) (wrap64 (x6_2 + 1))) = some r := zT hy160 H
            have Ny160 := Aside0.mk hy160
            clear hy160
            have H' := Aside0.mk H
            clear H
            have p13 : 0 ≤ ((ji10) : Int) := of_decide_eq_true zA
            have q13 : ((ji10) : Int) < ((x3_2.length : Int) : Int) := of_decide_eq_true zA
            obtain ⟨go13, co13, eo13, gb13, gl13, cl13, HG13⟩ := Kd.R_form HO_3.out (by omega)
            (first | cases eo13 | (injection eo13 with ea_ en_ ec_; (first | subst ea_ | (injection ea_ with ea_; subst ea_)); subst ec_; clear en_))
            have GB13 := Aside0.mk gb13
            have GG13 := Aside0.mk HG13
            clear gb13 gl13 HG13
            obtain ⟨hx13_0, hf13_0⟩ := Kd.R_celln 0 HO_3.out ((ji10) : Int) p13 q13
            replace p13 := eq_true p13
            replace q13 := eq_true q13
            have HP14 := Kd.R_putg HO_3.out ((ji10) : Int) ((wrap64 (48 + (Int.tmod x5_2 10))) % 256)
            go_wp2_with (first | ((with_reducible refine gate_store (t := 5) (p := 38) rfl ?_); refine store_event (t := 5) (p := 38) (v := ?vo_w15) (w1 := (wr.setCell ⟨go13, ((ji10) : Int).toNat, none⟩ (.int .u8 ((wrap64 (48 + (Int.tmod x5_2 10))) % 256)))) ?hg ?ho ?hn ?hr ?_; (case ho => rfl); (case hg => rfl); (case hn => rfl); (case hr => first | (go_simp; done) | (go_simp; rfl)); intro w15 hw; have hg : wr.grownBy w15 (some go13) := (by rw [hw]; exact HP14.2); have hp_ : Kd.R (Kd.int .u8) 5 w15 w.heap.size (fun _ => True) (.slice (some ⟨go13, 0, none⟩) x3_2.length co13) y160 := (by rw [hw, Ny160.out]; exact HP14.1); clear HP14; replace HO_3 := Aside0.mk (hp_); replace HB := Aside0.mk ((by rw [hw]; exact below_set (HB.out) GB13.out : Below w.heap.size w w15)); clear hg hw hp_))
            go_roundg k2
            case measure => have := HK1.out; have := HK2.out; omega
            case rel => exact ⟨(y160), (wrap64 (Int.tdiv x5_2 10)), (wrap64 (x6_2 + 1)), zE, zE, H', ⟨by have := HK1.out; have := HK2.out; omega⟩, ⟨zR HO_3.out⟩, ⟨zB⟩⟩
           ·rw [if_neg c12] at H
            exact absurd H (by simp)
          ·rw [if_neg c11] at H
           exact absurd H (by simp)
         ·rw [if_neg c9] at H
          have c9b0 := decide_eq_false c9
          clear c9
          have H' := Aside0.mk H
          clear H
          go_wp2
          go_roundg k2
          case measure => have := HK1.out; have := HK2.out; omega
          case rel => exact ⟨(x3_2), (wrap64 (x4_1 + 1)), zE, H', ⟨by have := HK1.out; have := HK2.out; omega⟩, ⟨zR HO_3.out⟩, ⟨zB⟩⟩
      ·rw [if_neg c8] at H
       exact absurd H (by simp)
     ·rw [if_neg c7] at H
      have c7b0 := decide_eq_false c7
      clear c7
      replace H := zM H
      obtain ⟨t158, A160, H⟩ := H
      replace H : (some t158) = some r := H
      have A16 := Aside0.mk A160
      clear A160
      obtain rfl := Option.some.inj H
      have hcv17 := own_string (P := Tryz.prog) Tryz.underlying22 Tryz.underlying5 Tryz.underlying9 (Kd.own_of_R HO_3.out)
      go_wp2_with (first | ((with_reducible refine gate_callee (f := 80) rfl ?_); refine goesL_ (some 43) rfl rfl Tryz.func80 (by kernel_rfl) rfl #[.string (strOfNums x3_1)] rfl zL ?_; (with_reducible refine (spec_l06Trim.calls k1 (strOfNums x3_1) t158 _ A16.out).mono ?_); rintro e w' ⟨rfl, ⟨nd, rfl⟩⟩; refine ⟨_, rfl, ?_⟩))
      go_ret
      exact ⟨by first | rfl | (simp [errW_none, errW_some] <;> rfl) | (simp only [← hji2]; first | rfl | (simp [errW_none, errW_some] <;> rfl)) | (simp [*, errW_none, errW_some] <;> rfl), zB⟩
  ·rw [if_neg c4] at H
   exact absurd H (by simp)
 ·rw [if_neg c3] at H
  exact absurd H (by simp)

mutual
def spec_Exact.j0 : Nat → List Int → Int → Option (ByteArray × Int)
 | 0, _, _ => none
 | k + 1, x5, x6 => (spec_l06Text.f k x5).bind fun t181 => (spec_Exact.l0 k x6 t181)
def spec_Exact.l0 : Nat → Int → ByteArray → Option (ByteArray × Int)
 | 0, _, _ => none
 | k + 1, x6, x7 => if (x7.size : Int) > 1 then (if 0 ≤ (wrap64 ((x7.size : Int) - 1)) then (if (wrap64 ((x7.size : Int) - 1)) < (x7.size : Int) then (if (bt x7 (wrap64 ((x7.size : Int) - 1))) = 48 then (if (wrap64 ((x7.size : Int) - 1)) ≤ (x7.size : Int) then (spec_Exact.l0 k (wrap64 (x6 + 1)) (x7.extract 0 ((wrap64 ((x7.size : Int) - 1)) : Int).toNat)) else (none)) else (some (x7, x6))) else (none)) else (none)) else (some (x7, x6))
end
def spec_Exact.f (k : Nat) (a0 : Int) : Option (ByteArray × Int) := (spec_PartsOfNumber.f k a0).bind fun bt161 => (if bt161.1 = 4 then ((some (([wrap64 (Int.tmod bt161.2.2.1 1000000000), wrap64 (IntKind.u64.wrap (Int.tdiv bt161.2.2.1 1000000000))] : List Int) : List Int)).bind fun y166 => (if bt161.2.2.2 ≥ 0 then ((spec_l06Power.f k 2 bt161.2.2.2).bind fun t169 => ((spec_l06Mul.f k y166 t169).bind fun t172 => (spec_Exact.j0 k t172 0))) else ((spec_l06Power.f k 5 (wrap64 (-bt161.2.2.2))).bind fun t175 => ((spec_l06Mul.f k y166 t175).bind fun t178 => (spec_Exact.j0 k t178 bt161.2.2.2))))) else (some ((⟨#[]⟩ : ByteArray), 0)))
theorem spec_Exact.mono_l : ∀ k, (∀ y0 y1, LeO (spec_Exact.j0 k y0 y1) (spec_Exact.j0 (k + 1) y0 y1)) ∧ (∀ y0 y1, LeO (spec_Exact.l0 k y0 y1) (spec_Exact.l0 (k + 1) y0 y1))
  | 0 => ⟨fun _ _ r h => by simp [spec_Exact.j0] at h, fun _ _ r h => by simp [spec_Exact.l0] at h⟩
  | k + 1 => by
    obtain ⟨ih0, ih1⟩ := spec_Exact.mono_l k
    refine ⟨?_, ?_⟩ <;> intros <;> (first | unfold spec_Exact.j0 | unfold spec_Exact.l0) <;> with_reducible repeat' first
     | exact ih0 _ _
     | exact ih1 _ _
     | exact spec_PartsOfNumber.mono _ _
     | exact spec_l06Mul.mono _ _ _
     | exact spec_l06Power.mono _ _ _
     | exact spec_l06Text.mono _ _
     | exact LeO.refl _
     | exact LeO.none _
     | refine LeO.ite ?_ ?_
     | refine LeO.bind ?_ (fun _ => ?_)
theorem spec_Exact.mono : ∀ a0 k, LeO (spec_Exact.f k a0) (spec_Exact.f (k + 1) a0) := by
 intro a0 k
 obtain ⟨ih0, ih1⟩ := spec_Exact.mono_l k
 unfold spec_Exact.f
 with_reducible repeat' first
 | exact ih0 _ _
 | exact ih1 _ _
 | exact spec_PartsOfNumber.mono _ _
 | exact spec_l06Mul.mono _ _ _
 | exact spec_l06Power.mono _ _ _
 | exact spec_l06Text.mono _ _
 | exact LeO.refl _
 | exact LeO.none _
 | refine LeO.ite ?_ ?_
 | refine LeO.bind ?_ (fun _ => ?_)
theorem spec_Exact.calls (k : Nat) (a0 : Int) (r1 : ByteArray) (r2 : Int) (w : World) (h : spec_Exact.f k a0 = some (r1, r2)) :
  Calls Tryz.prog 14 #[.int .u64 a0] w fun e w' => e = .returned (.tuple #[.string r1, .int .i64 r2]) ∧ Below w.heap.size w w' := by
 have hu35 := Tryz.underlying35
 have HB := Aside0.mk (Below.refl w.heap.size w)
 have H : ((spec_PartsOfNumber.f k a0).bind fun bt161 => (if bt161.1 = 4 then ((some (([wrap64 (Int.tmod bt161.2.2.1 1000000000), wrap64 (IntKind.u64.wrap (Int.tdiv bt161.2.2.1 1000000000))] : List Int) : List Int)).bind fun y166 => (if bt161.2.2.2 ≥ 0 then ((spec_l06Power.f k 2 bt161.2.2.2).bind fun t169 => ((spec_l06Mul.f k y166 t169).bind fun t172 => (spec_Exact.j0 k t172 0))) else ((spec_l06Power.f k 5 (wrap64 (-bt161.2.2.2))).bind fun t175 => ((spec_l06Mul.f k y166 t175).bind fun t178 => (spec_Exact.j0 k t178 bt161.2.2.2))))) else (some ((⟨#[]⟩ : ByteArray), 0)))) = some (r1, r2) := h
 clear h
 replace H := zM H
 obtain ⟨⟨t161, t162, t163, t164⟩, A20, H⟩ := H
 try dsimp only at H
 have A2 := Aside0.mk A20
 clear A20
 by_cases c3 : t161 = 4
 ·rw [if_pos c3] at H
  have c3b0 : (t161 == 4) = true := beq_iff_eq.mpr c3
  have c3b1 : (t161 != 4) = false := bne_eq_false_iff_eq.mpr c3
  clear c3
  obtain ⟨y166, hy166⟩ : ∃ y_ : List Int, y_ = (([wrap64 (Int.tmod t163 1000000000), wrap64 (IntKind.u64.wrap (Int.tdiv t163 1000000000))] : List Int)) := ⟨_, rfl⟩
  replace H : (if t164 ≥ 0 then ((spec_l06Power.f k 2 t164).bind fun t169 => ((spec_l06Mul.f k y166 t169).bind fun t172 => (spec_Exact.j0 k t172 0))) else ((spec_l06Power.f k 5 (wrap64 (-t164))).bind fun t175 => ((spec_l06Mul.f k y166 t175).bind fun t178 => (spec_Exact.j0 k t178 t164)))) = some (r1, r2) := zT hy166 H
  have Ny166 := Aside0.mk hy166
  clear hy166
  have HC4 := Aside0.mk H
  clear H
  go_enter Tryz.func14, Tryz.ntmps14
  go_upto_if 24 with (first | ((with_reducible refine gate_callee (f := 20) rfl ?_); refine goesL_ (some 9) rfl rfl Tryz.func20 (by kernel_rfl) rfl #[.int .u64 a0] rfl zL ?_; (with_reducible refine (spec_PartsOfNumber.calls k a0 t161 t162 t163 t164 _ A2.out).mono ?_); rintro e w5 ⟨rfl, hb⟩; refine ⟨_, rfl, ?_⟩; replace HB := Aside0.mk (below_step zB hb); (try clear hb)) | ((with_reducible refine gate_dst (N := 4) rfl ?_); (try (refine gate_guard (by rfl) ?_; dsimp only)); refine box_event ?hg (N := 4) ?hd (cs := #[.int .i64 0, .bool false, .int .u64 0, .int .i64 0]) (t := 35) ?hr ?_; (case hd => rfl); (case hg => rfl); (case hr => first | (go_simp; done) | (go_simp; rfl)); intro gb165 hg w6 hbox hb; have n0_ := Aside0.mk (below_step zB hb); have n1_ := Aside0.mk (hbox); have n2_ := Aside0.mk ((by rw [hg]; exact (below_size zB) : w.heap.size ≤ gb165)); have n3_ := Aside0.mk ((by rw [hg]; exact (below_size zB) : w.heap.size ≤ gb165)); clear HB; have HB := n0_; have BK165 := n1_; have GW165 := n2_; have GE165 := n3_; clear n0_ n1_ n2_ n3_; clear hb hbox hg; have hcz7_0 : w6.cell? ⟨gb165, 0, none⟩ = some (.int .i64 0) := (blk_cell BK165.out 0).trans rfl; have hcz7_1 : w6.cell? ⟨gb165, 1, none⟩ = some (.bool false) := (blk_cell BK165.out 1).trans rfl; have hcz7_2 : w6.cell? ⟨gb165, 2, none⟩ = some (.int .u64 0) := (blk_cell BK165.out 2).trans rfl; have hcz7_3 : w6.cell? ⟨gb165, 3, none⟩ = some (.int .i64 0) := (blk_cell BK165.out 3).trans rfl; have hfz7_0 := blk_frozen BK165.out 0; have hfz7_1 := blk_frozen BK165.out 1; have hfz7_2 := blk_frozen BK165.out 2; have hfz7_3 := blk_frozen BK165.out 3) | ((with_reducible refine gate_dst (N := 21) rfl ?_); (try (refine gate_guard (by rfl) ?_; dsimp only)); refine Kd.R_lit (Kd.int .i64) _ 3 ?hg (N := 21) ?hd (xs := ([wrap64 (Int.tmod t163 1000000000), wrap64 (IntKind.u64.wrap (Int.tdiv t163 1000000000))] : List Int)) (inner := [.int .i64 (wrap64 (Int.tmod t163 1000000000)), .int .i64 (wrap64 (IntKind.u64.wrap (Int.tdiv t163 1000000000)))]) (ok := fun _ => True) (okp := fun _ => True) ?hr ?hp (fun _ hk => hk) trivial (Below.refl _ _) (Nat.le_refl _) (by simp) ?_; (case hd => rfl); (case hg => rfl); (case hr => first | (go_simp; done) | (go_simp; rfl)); (case hp => exact (Reps.one (show Kd.M (Kd.int .i64) _ _ _ (wrap64 (Int.tmod t163 1000000000)) [.int .i64 (wrap64 (Int.tmod t163 1000000000))] from rfl) (Reps.one (show Kd.M (Kd.int .i64) _ _ _ (wrap64 (IntKind.u64.wrap (Int.tdiv t163 1000000000))) [.int .i64 (wrap64 (IntKind.u64.wrap (Int.tdiv t163 1000000000)))] from rfl) (Reps.none _ _)))); intro v167 w8 ho9 hb hg_ hnew_; clear hg_ hnew_; (first | rw [← Ny166.out] at ho9 | (simp only [Int.reduceToNat] at ho9; rw [← Ny166.out] at ho9)); have n0_ := Aside0.mk (Kd.R_lower ho9 (below_size zB)); have n1_ := Aside0.mk (blk_below (g := gb165) (o := .cells #[.int .i64 t161, .bool t162, .int .u64 t163, .int .i64 t164] 35 (0, 0)) (by (with_reducible repeat (first | refine blk_drewN ?_ _ | refine blk_drew ?_ | refine blk_alloc ?_ _)); refine blk_put (cs := #[.int .i64 t161, .bool t162, .int .u64 t163, .int .i64 0]) ?_ 3 _ rfl; (with_reducible repeat (first | refine blk_drewN ?_ _ | refine blk_drew ?_ | refine blk_alloc ?_ _)); refine blk_put (cs := #[.int .i64 t161, .bool t162, .int .u64 0, .int .i64 0]) ?_ 2 _ rfl; (with_reducible repeat (first | refine blk_drewN ?_ _ | refine blk_drew ?_ | refine blk_alloc ?_ _)); refine blk_put (cs := #[.int .i64 t161, .bool false, .int .u64 0, .int .i64 0]) ?_ 1 _ rfl; (with_reducible repeat (first | refine blk_drewN ?_ _ | refine blk_drew ?_ | refine blk_alloc ?_ _)); refine blk_put (cs := #[.int .i64 0, .bool false, .int .u64 0, .int .i64 0]) ?_ 0 _ rfl; (with_reducible repeat (first | refine blk_drewN ?_ _ | refine blk_drew ?_ | refine blk_alloc ?_ _)); exact BK165.out) hb); have n2_ := Aside0.mk (below_step zB hb); clear BK165; clear HB; have HO168 := n0_; have BK165 := n1_; have HB := n2_; clear n0_ n1_ n2_; clear hb ho9; have hcz10_0 : w8.cell? ⟨gb165, 0, none⟩ = some (.int .i64 t161) := (blk_cell BK165.out 0).trans rfl; have hcz10_1 : w8.cell? ⟨gb165, 1, none⟩ = some (.bool t162) := (blk_cell BK165.out 1).trans rfl; have hcz10_2 : w8.cell? ⟨gb165, 2, none⟩ = some (.int .u64 t163) := (blk_cell BK165.out 2).trans rfl; have hcz10_3 : w8.cell? ⟨gb165, 3, none⟩ = some (.int .i64 t164) := (blk_cell BK165.out 3).trans rfl; have hfz10_0 := blk_frozen BK165.out 0; have hfz10_1 := blk_frozen BK165.out 1; have hfz10_2 := blk_frozen BK165.out 2; have hfz10_3 := blk_frozen BK165.out 3))
  (try simp only [Act.put, List.setIfInBounds_toArray, List.set_cons_zero, List.set_cons_succ])
  go_cut [5, 6] (fun v5 v6 wc => ∃ (kq : Nat) (x5_3 : List Int) (x6_3 : Int), v6 = .int .i64 x6_3 ∧ Aside0 (spec_Exact.j0 kq x5_3 x6_3 = some (r1, r2)) ∧ Aside0 (kq ≤ k) ∧ Aside0 (Kd.R (Kd.int .i64) 3 wc w.heap.size (fun _ => True) v5 x5_3) ∧ Aside0 (wc.heap[gb165]? = some (.cells #[.int .i64 t161, .bool t162, .int .u64 t163, .int .i64 t164] 35 (0, 0))) ∧ Aside0 (Below w.heap.size w wc))
  case first =>
   have H := HC4.out
   clear HC4
   by_cases c11 : t164 ≥ 0
   ·rw [if_pos c11] at H
    have c11b0 : decide (0 ≤ t164) = true := decide_eq_true c11
    clear c11
    (first | rw [c11b0] | (simp only [i64_w, i32_w]; rw [c11b0]) | skip)
    replace H := zM H
    obtain ⟨t169, A120, H⟩ := H
    try dsimp only at H
    have A12 := Aside0.mk A120
    clear A120
    replace H := zM H
    obtain ⟨t172, A130, H⟩ := H
    replace H : (spec_Exact.j0 k t172 0) = some (r1, r2) := H
    have A13 := Aside0.mk A130
    clear A130
    have H' := Aside0.mk H
    clear H
    have hcz14_0 : w8.cell? ⟨gb165, 0, none⟩ = some (.int .i64 t161) := (blk_cell BK165.out 0).trans rfl
    have hcz14_1 : w8.cell? ⟨gb165, 1, none⟩ = some (.bool t162) := (blk_cell BK165.out 1).trans rfl
    have hcz14_2 : w8.cell? ⟨gb165, 2, none⟩ = some (.int .u64 t163) := (blk_cell BK165.out 2).trans rfl
    have hcz14_3 : w8.cell? ⟨gb165, 3, none⟩ = some (.int .i64 t164) := (blk_cell BK165.out 3).trans rfl
    have hfz14_0 := blk_frozen BK165.out 0
    have hfz14_1 := blk_frozen BK165.out 1
    have hfz14_2 := blk_frozen BK165.out 2
    have hfz14_3 := blk_frozen BK165.out 3
    go_wp2_with (first | ((with_reducible refine gate_callee (f := 41) rfl ?_); refine goesL_ (some 28) rfl rfl Tryz.func41 (by kernel_rfl) rfl #[.int .i64 2, .int .i64 t164] rfl zL ?_; (with_reducible refine (spec_l06Power.calls k 2 t164 t169 _ A12.out).mono ?_); rintro e w15 ⟨v170, rfl, ho0, hb⟩; refine ⟨_, rfl, ?_⟩; have n0_ := Aside0.mk (Kd.R_elder' (zR HO168.out) (Kd.R_base ho0) hb); have n1_ := Aside0.mk (Kd.R_lower (Kd.R_new' ho0 (Kd.R_lt (zR HO168.out))) (below_size zB)); have n2_ := Aside0.mk (blk_below (g := gb165) (o := .cells #[.int .i64 t161, .bool t162, .int .u64 t163, .int .i64 t164] 35 (0, 0)) (zK BK165.out) hb); have n3_ := Aside0.mk (below_step zB hb); clear HO168; clear BK165; clear HB; have HO168 := n0_; have HO171 := n1_; have BK165 := n2_; have HB := n3_; clear n0_ n1_ n2_ n3_; (try clear hb); (try clear ho0); obtain ⟨Ao16, co16, eo16⟩ := Kd.R_slice HO168.out; subst eo16; obtain ⟨Ao17, co17, eo17⟩ := Kd.R_slice HO171.out; subst eo17) | ((with_reducible refine gate_callee (f := 40) rfl ?_); refine goesL_ (some 29) rfl rfl Tryz.func40 (by kernel_rfl) rfl #[.slice Ao16 y166.length co16, .slice Ao17 t169.length co17] rfl zL ?_; (with_reducible refine (spec_l06Mul.calls k _ _ y166 _ _ t169 t172 _ ?side1 ?side2 ?side3 ?side4 A13.out).mono ?_); (case side1 => exact zP (Kd.R_reads' HO168.out).2.2); (case side2 => exact (Kd.R_reads' HO168.out).2.1); (case side3 => exact zP (Kd.R_reads' HO171.out).2.2); (case side4 => exact (Kd.R_reads' HO171.out).2.1); rintro e w18 ⟨v173, rfl, ho0, hb⟩; refine ⟨_, rfl, ?_⟩; have n0_ := Aside0.mk (Kd.R_elder' (zR HO168.out) (Kd.R_base ho0) hb); have n1_ := Aside0.mk (Kd.R_elder' (zR HO171.out) (Kd.R_base ho0) hb); have n2_ := Aside0.mk (Kd.R_lower (Kd.R_new' (Kd.R_new' ho0 (Kd.R_lt (zR HO168.out))) (Kd.R_lt (zR HO171.out))) (below_size zB)); have n3_ := Aside0.mk (blk_below (g := gb165) (o := .cells #[.int .i64 t161, .bool t162, .int .u64 t163, .int .i64 t164] 35 (0, 0)) (zK BK165.out) hb); have n4_ := Aside0.mk (below_step zB hb); clear HO168; clear HO171; clear BK165; clear HB; have HO168 := n0_; have HO171 := n1_; have HO174 := n2_; have BK165 := n3_; have HB := n4_; clear n0_ n1_ n2_ n3_ n4_; (try clear hb); (try clear ho0)))
    go_meet
    case rel => exact ⟨_, (t172), (0), zE, H', ⟨by first | omega | exact Nat.le_refl _⟩, ⟨by (with_reducible repeat (first | apply Kd.R_alloc | apply Kd.R_drewN | apply Kd.R_drew)); exact Kd.R_mono HO174.out (fun _ hk => trivial)⟩, ⟨zK BK165.out⟩, ⟨zB⟩⟩
   ·rw [if_neg c11] at H
    have c11b0 : decide (0 ≤ t164) = false := decide_eq_false c11
    clear c11
    (first | rw [c11b0] | (simp only [i64_w, i32_w]; rw [c11b0]) | skip)
    replace H := zM H
    obtain ⟨t175, A190, H⟩ := H
    try dsimp only at H
    have A19 := Aside0.mk A190
    clear A190
    replace H := zM H
    obtain ⟨t178, A200, H⟩ := H
    replace H : (spec_Exact.j0 k t178 t164) = some (r1, r2) := H
    have A20 := Aside0.mk A200
    clear A200
    have H' := Aside0.mk H
    clear H
    have hcz21_0 : w8.cell? ⟨gb165, 0, none⟩ = some (.int .i64 t161) := (blk_cell BK165.out 0).trans rfl
    have hcz21_1 : w8.cell? ⟨gb165, 1, none⟩ = some (.bool t162) := (blk_cell BK165.out 1).trans rfl
    have hcz21_2 : w8.cell? ⟨gb165, 2, none⟩ = some (.int .u64 t163) := (blk_cell BK165.out 2).trans rfl
    have hcz21_3 : w8.cell? ⟨gb165, 3, none⟩ = some (.int .i64 t164) := (blk_cell BK165.out 3).trans rfl
    have hfz21_0 := blk_frozen BK165.out 0
    have hfz21_1 := blk_frozen BK165.out 1
    have hfz21_2 := blk_frozen BK165.out 2
    have hfz21_3 := blk_frozen BK165.out 3
    go_wp2_with (first | ((with_reducible refine gate_callee (f := 41) rfl ?_); refine goesL_ (some 34) rfl rfl Tryz.func41 (by kernel_rfl) rfl #[.int .i64 5, .int .i64 (wrap64 (-t164))] rfl zL ?_; (with_reducible refine (spec_l06Power.calls k 5 (wrap64 (-t164)) t175 _ A19.out).mono ?_); rintro e w22 ⟨v176, rfl, ho0, hb⟩; refine ⟨_, rfl, ?_⟩; have n0_ := Aside0.mk (Kd.R_elder' (zR HO168.out) (Kd.R_base ho0) hb); have n1_ := Aside0.mk (Kd.R_lower (Kd.R_new' ho0 (Kd.R_lt (zR HO168.out))) (below_size zB)); have n2_ := Aside0.mk (blk_below (g := gb165) (o := .cells #[.int .i64 t161, .bool t162, .int .u64 t163, .int .i64 t164] 35 (0, 0)) (zK BK165.out) hb); have n3_ := Aside0.mk (below_step zB hb); clear HO168; clear BK165; clear HB; have HO168 := n0_; have HO177 := n1_; have BK165 := n2_; have HB := n3_; clear n0_ n1_ n2_ n3_; (try clear hb); (try clear ho0); obtain ⟨Ao23, co23, eo23⟩ := Kd.R_slice HO168.out; subst eo23; obtain ⟨Ao24, co24, eo24⟩ := Kd.R_slice HO177.out; subst eo24) | ((with_reducible refine gate_callee (f := 40) rfl ?_); refine goesL_ (some 35) rfl rfl Tryz.func40 (by kernel_rfl) rfl #[.slice Ao23 y166.length co23, .slice Ao24 t175.length co24] rfl zL ?_; (with_reducible refine (spec_l06Mul.calls k _ _ y166 _ _ t175 t178 _ ?side1 ?side2 ?side3 ?side4 A20.out).mono ?_); (case side1 => exact zP (Kd.R_reads' HO168.out).2.2); (case side2 => exact (Kd.R_reads' HO168.out).2.1); (case side3 => exact zP (Kd.R_reads' HO177.out).2.2); (case side4 => exact (Kd.R_reads' HO177.out).2.1); rintro e w25 ⟨v179, rfl, ho0, hb⟩; refine ⟨_, rfl, ?_⟩; have n0_ := Aside0.mk (Kd.R_elder' (zR HO168.out) (Kd.R_base ho0) hb); have n1_ := Aside0.mk (Kd.R_elder' (zR HO177.out) (Kd.R_base ho0) hb); have n2_ := Aside0.mk (Kd.R_lower (Kd.R_new' (Kd.R_new' ho0 (Kd.R_lt (zR HO168.out))) (Kd.R_lt (zR HO177.out))) (below_size zB)); have n3_ := Aside0.mk (blk_below (g := gb165) (o := .cells #[.int .i64 t161, .bool t162, .int .u64 t163, .int .i64 t164] 35 (0, 0)) (zK BK165.out) hb); have n4_ := Aside0.mk (below_step zB hb); clear HO168; clear HO177; clear BK165; clear HB; have HO168 := n0_; have HO177 := n1_; have HO180 := n2_; have BK165 := n3_; have HB := n4_; clear n0_ n1_ n2_ n3_ n4_; (try clear hb); (try clear ho0); have hcz26_0 : w25.cell? ⟨gb165, 0, none⟩ = some (.int .i64 t161) := (blk_cell BK165.out 0).trans rfl; have hcz26_1 : w25.cell? ⟨gb165, 1, none⟩ = some (.bool t162) := (blk_cell BK165.out 1).trans rfl; have hcz26_2 : w25.cell? ⟨gb165, 2, none⟩ = some (.int .u64 t163) := (blk_cell BK165.out 2).trans rfl; have hcz26_3 : w25.cell? ⟨gb165, 3, none⟩ = some (.int .i64 t164) := (blk_cell BK165.out 3).trans rfl; have hfz26_0 := blk_frozen BK165.out 0; have hfz26_1 := blk_frozen BK165.out 1; have hfz26_2 := blk_frozen BK165.out 2; have hfz26_3 := blk_frozen BK165.out 3))
    go_meet
    case rel => exact ⟨_, (t178), (t164), zE, H', ⟨by first | omega | exact Nat.le_refl _⟩, ⟨by (with_reducible repeat (first | apply Kd.R_alloc | apply Kd.R_drewN | apply Kd.R_drew)); exact Kd.R_mono HO180.out (fun _ hk => trivial)⟩, ⟨zK BK165.out⟩, ⟨zB⟩⟩
  case rest =>
   clear HC4
   obtain ⟨kq, x5_3, x6_3, rfl, HA, HJ3, HO_5, BK165, HB⟩ := hcut
   cases kq with
   | zero => exact absurd HA.out (by simp [spec_Exact.j0])
   | succ kj3 =>
    have H := HA.out
    clear HA
    simp only [spec_Exact.j0] at H
    replace H := zM H
    obtain ⟨t181, A270, H⟩ := H
    replace H : (spec_Exact.l0 kj3 x6_3 t181) = some (r1, r2) := H
    have A27 := Aside0.mk A270
    clear A270
    have H' := Aside0.mk H
    clear H
    obtain ⟨Ao28, co28, eo28⟩ := Kd.R_slice HO_5.out
    subst eo28
    go_wp2_with (first | ((with_reducible refine gate_callee (f := 42) rfl ?_); refine goesL_ (some 39) rfl rfl Tryz.func42 (by kernel_rfl) rfl #[.slice Ao28 x5_3.length co28] rfl zL ?_; (with_reducible refine (spec_l06Text.calls kj3 _ _ x5_3 t181 _ ?side1 ?side2 A27.out).mono ?_); (case side1 => exact zP (Kd.R_reads' HO_5.out).2.2); (case side2 => exact (Kd.R_reads' HO_5.out).2.1); rintro e w29 ⟨rfl, hb⟩; refine ⟨_, rfl, ?_⟩; have n0_ := Aside0.mk (Kd.R_below (zR HO_5.out) hb); have n1_ := Aside0.mk (blk_below (g := gb165) (o := .cells #[.int .i64 t161, .bool t162, .int .u64 t163, .int .i64 t164] 35 (0, 0)) (zK BK165.out) hb); have n2_ := Aside0.mk (below_step zB hb); clear HO_5; clear BK165; clear HB; have HO_5 := n0_; have BK165 := n1_; have HB := n2_; clear n0_ n1_ n2_; (try clear hb)))
    go_loopg [6, 7] kj3 (fun kq v6 v7 w' => ∃ (x6_2 : Int) (x7_2 : ByteArray), v6 = .int .i64 x6_2 ∧ v7 = .string x7_2 ∧ Aside0 (spec_Exact.l0 kq x6_2 x7_2 = some (r1, r2)) ∧ Aside0 (kq ≤ kj3) ∧ Aside0 (w'.heap[gb165]? = some (.cells #[.int .i64 t161, .bool t162, .int .u64 t163, .int .i64 t164] 35 (0, 0))) ∧ Aside0 (Below w.heap.size w w'))
    case atStart => exact ⟨(x6_3), (t181), zE, zE, H', ⟨Nat.le_refl _⟩, ⟨zK BK165.out⟩, ⟨zB⟩⟩
    case round =>
     clear H'
     obtain ⟨x6_2, x7_2, rfl, rfl, HA, HK2, BK165, HB⟩ := hrel
     cases gk with
     | zero => exact absurd HA.out (by simp [spec_Exact.l0])
     | succ k2 =>
      have H := HA.out
      clear HA
      simp only [spec_Exact.l0] at H
      by_cases c30 : (x7_2.size : Int) > 1
      ·rw [if_pos c30] at H
       have c30b0 : decide (1 < (x7_2.size : Int)) = true := decide_eq_true c30
       have c30b1 : decide (1 < x7_2.size) = true := decide_eq_true (by omega)
       clear c30
       obtain ⟨ji31, hji31⟩ : ∃ j_ : Int, (wrap64 ((x7_2.size : Int) - 1)) = j_ := ⟨_, rfl⟩
       first | rw [hji31] at H | simp only [hji31] at H
       have hji31w : (IntKind.i64.wrap ((x7_2.size : Int) - 1)) = ji31 := (i64_w _).trans hji31
       by_cases c32 : 0 ≤ (ji31)
       ·rw [if_pos c32] at H
        have c32b0 := decide_eq_true c32
        clear c32
        by_cases c33 : (ji31) < (x7_2.size : Int)
        ·rw [if_pos c33] at H
         have c33b0 := decide_eq_true c33
         clear c33
         by_cases c35 : (bt x7_2 (ji31)) = 48
         ·rw [if_pos c35] at H
          have c35b0 : ((bt x7_2 (ji31)) == 48) = true := beq_iff_eq.mpr c35
          have c35b1 : ((bt x7_2 (ji31)) != 48) = false := bne_eq_false_iff_eq.mpr c35
          clear c35
          have c36b0 := eq_true (of_decide_eq_true zA : 0 ≤ (ji31))
          by_cases c37 : (ji31) ≤ (x7_2.size : Int)
          ·rw [if_pos c37] at H
           have c37b0 := eq_true c37
           have c37b1 := decide_eq_true c37
           clear c37
           have H' := Aside0.mk H
           clear H
           have p34 : 0 ≤ ((ji31) : Int) := of_decide_eq_true zA
           have q34 : (ji31) < (x7_2.size : Int) := of_decide_eq_true zA
           have hx34 := bt_at x7_2 (ji31)
           replace p34 := eq_true p34
           replace q34 := eq_true q34
           go_wp2
           go_roundg k2
           case measure => have := HJ3.out; have := HK2.out; omega
           case rel => exact ⟨(wrap64 (x6_2 + 1)), (x7_2.extract 0 ((ji31) : Int).toNat), zE, (by first | rfl | (simp; done) | (simp only [← hji31] <;> (first | rfl | simp)) | (simp [*]; done)), H', ⟨by have := HJ3.out; have := HK2.out; omega⟩, ⟨zK BK165.out⟩, ⟨zB⟩⟩
          ·rw [if_neg c37] at H
           exact absurd H (by simp)
         ·rw [if_neg c35] at H
          have c35b0 : ((bt x7_2 (ji31)) == 48) = false := beq_eq_false_iff_ne.mpr c35
          have c35b1 : ((bt x7_2 (ji31)) != 48) = true := bne_iff_ne.mpr c35
          simp only [Option.some.injEq, Prod.mk.injEq] at H
          obtain ⟨rfl, rfl⟩ := H
          have p34 : 0 ≤ ((ji31) : Int) := of_decide_eq_true zA
          have q34 : (ji31) < (x7_2.size : Int) := of_decide_eq_true zA
          have hx34 := bt_at x7_2 (ji31)
          replace p34 := eq_true p34
          replace q34 := eq_true q34
          go_wp2
          go_ret2
          exact ⟨by first | rfl | (simp [errW_none, errW_some] <;> rfl) | (simp only [← hji31]; first | rfl | (simp [errW_none, errW_some] <;> rfl)) | (simp [*, errW_none, errW_some] <;> rfl), zB⟩
        ·rw [if_neg c33] at H
         exact absurd H (by simp)
       ·rw [if_neg c32] at H
        exact absurd H (by simp)
      ·rw [if_neg c30] at H
       have c30b0 : decide (1 < (x7_2.size : Int)) = false := decide_eq_false c30
       have c30b1 : decide (1 < x7_2.size) = false := decide_eq_false (by omega)
       clear c30
       simp only [Option.some.injEq, Prod.mk.injEq] at H
       obtain ⟨rfl, rfl⟩ := H
       go_wp2
       go_ret2
       exact ⟨zF, zB⟩
 ·rw [if_neg c3] at H
  have c3b0 : (t161 == 4) = false := beq_eq_false_iff_ne.mpr c3
  have c3b1 : (t161 != 4) = true := bne_iff_ne.mpr c3
  simp only [Option.some.injEq, Prod.mk.injEq] at H
  obtain ⟨rfl, rfl⟩ := H
  go_enter Tryz.func14, Tryz.ntmps14
  go_wp2_with (first | ((with_reducible refine gate_callee (f := 20) rfl ?_); refine goesL_ (some 9) rfl rfl Tryz.func20 (by kernel_rfl) rfl #[.int .u64 a0] rfl zL ?_; (with_reducible refine (spec_PartsOfNumber.calls k a0 t161 t162 t163 t164 _ A2.out).mono ?_); rintro e w38 ⟨rfl, hb⟩; refine ⟨_, rfl, ?_⟩; replace HB := Aside0.mk (below_step zB hb); (try clear hb)) | ((with_reducible refine gate_dst (N := 4) rfl ?_); (try (refine gate_guard (by rfl) ?_; dsimp only)); refine box_event ?hg (N := 4) ?hd (cs := #[.int .i64 0, .bool false, .int .u64 0, .int .i64 0]) (t := 35) ?hr ?_; (case hd => rfl); (case hg => rfl); (case hr => first | (go_simp; done) | (go_simp; rfl)); intro gb165 hg w39 hbox hb; have n0_ := Aside0.mk (below_step zB hb); have n1_ := Aside0.mk (hbox); have n2_ := Aside0.mk ((by rw [hg]; exact (below_size zB) : w.heap.size ≤ gb165)); have n3_ := Aside0.mk ((by rw [hg]; exact (below_size zB) : w.heap.size ≤ gb165)); clear HB; have HB := n0_; have BK165 := n1_; have GW165 := n2_; have GE165 := n3_; clear n0_ n1_ n2_ n3_; clear hb hbox hg; have hcz40_0 : w39.cell? ⟨gb165, 0, none⟩ = some (.int .i64 0) := (blk_cell BK165.out 0).trans rfl; have hcz40_1 : w39.cell? ⟨gb165, 1, none⟩ = some (.bool false) := (blk_cell BK165.out 1).trans rfl; have hcz40_2 : w39.cell? ⟨gb165, 2, none⟩ = some (.int .u64 0) := (blk_cell BK165.out 2).trans rfl; have hcz40_3 : w39.cell? ⟨gb165, 3, none⟩ = some (.int .i64 0) := (blk_cell BK165.out 3).trans rfl; have hfz40_0 := blk_frozen BK165.out 0; have hfz40_1 := blk_frozen BK165.out 1; have hfz40_2 := blk_frozen BK165.out 2; have hfz40_3 := blk_frozen BK165.out 3))
  go_ret2
  exact ⟨zF, zB⟩

def spec_l01In.f (a0 : Int) (a1 : Int) (a2 : Int) : Option (Bool) := if a0 ≥ a1 then (some (decide (a0 ≤ a2))) else (some false)
theorem spec_l01In.calls (a0 : Int) (a1 : Int) (a2 : Int) (r : Bool) (w : World) (h : spec_l01In.f a0 a1 a2 = some r) :
  Calls Tryz.prog 48 #[.int .i64 a0, .int .i64 a1, .int .i64 a2] w fun e w' => e = .returned (.bool r) ∧ Drawn0 w w' := by
 have H : (if a0 ≥ a1 then (some (decide (a0 ≤ a2))) else (some false)) = some r := h
 clear h
 by_cases c4 : a0 ≥ a1
 ·rw [if_pos c4] at H
  have c4b0 : decide (a1 ≤ a0) = true := decide_eq_true c4
  clear c4
  obtain rfl := Option.some.inj H
  go_enter Tryz.func48, Tryz.ntmps48
  go_wp2
  go_ret
  exact ⟨zE, zW⟩
 ·rw [if_neg c4] at H
  have c4b0 : decide (a1 ≤ a0) = false := decide_eq_false c4
  clear c4
  obtain rfl := Option.some.inj H
  go_enter Tryz.func48, Tryz.ntmps48
  go_wp2
  go_ret
  exact ⟨zE, zW⟩

end Go.Proofs.YtkjpelgdppmbjaaGreatDoor.MFnExactShowNumber
