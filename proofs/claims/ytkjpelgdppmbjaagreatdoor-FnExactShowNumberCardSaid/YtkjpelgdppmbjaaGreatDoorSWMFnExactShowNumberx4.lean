-- by this session's own program mp.py over the kit's printer
import Derived.Test.YtkjpelgdppmbjaaGreatDoorSWZip
import Derived.Test.YtkjpelgdppmbjaaGreatDoorSWMFnExactShowNumberx0
import Derived.Test.YtkjpelgdppmbjaaGreatDoorSWMFnExactShowNumberx1
import Derived.Test.YtkjpelgdppmbjaaGreatDoorSWMFnExactShowNumberx3
namespace Go.Proofs.YtkjpelgdppmbjaaGreatDoor.MFnExactShowNumber
open Go.RowKit YtkjpelgdppmbjaaGreatDoorW.PrintWords YtkjpelgdppmbjaaGreatDoorW.PrintLast YtkjpelgdppmbjaaGreatDoorW.PrintMore
set_option maxHeartbeats 8000000
set_option maxRecDepth 100000
attribute [local go_sem] max2_int min2_int max_two min_two max_three min_three max_four min_four
set_option linter.unusedVariables false
set_option linter.unusedSimpArgs false

mutual
def spec_FiguresOk.j0 : Nat → ByteArray → Bool → Option (Bool)
 | 0, _, _ => none
 | k + 1, x0, x17 => if x17 = true then (some false) else (spec_FiguresOk.l0 k x0 0)
def spec_FiguresOk.l0 : Nat → ByteArray → Int → Option (Bool)
 | 0, _, _ => none
 | k + 1, x0, x3 => if x3 < (x0.size : Int) then (if 0 ≤ x3 then (if (bt x0 x3) < 48 then (some false) else (if (bt x0 x3) > 57 then (some false) else (spec_FiguresOk.l0 k x0 (wrap64 (x3 + 1))))) else (none)) else (some true)
end
def spec_FiguresOk.f (k : Nat) (a0 : ByteArray) : Option (Bool) := (spec_l01In.f (a0.size : Int) 1 800).bind fun t182 => (if t182 = true then (if (a0.size : Int) > 1 then (if 0 < (a0.size : Int) then (spec_FiguresOk.j0 k a0 ((bt a0 0) == 48)) else (none)) else (spec_FiguresOk.j0 k a0 false)) else (spec_FiguresOk.j0 k a0 true))
theorem spec_FiguresOk.mono_l : ∀ k, (∀ y0 y1, LeO (spec_FiguresOk.j0 k y0 y1) (spec_FiguresOk.j0 (k + 1) y0 y1)) ∧ (∀ y0 y1, LeO (spec_FiguresOk.l0 k y0 y1) (spec_FiguresOk.l0 (k + 1) y0 y1))
  | 0 => ⟨fun _ _ r h => by simp [spec_FiguresOk.j0] at h, fun _ _ r h => by simp [spec_FiguresOk.l0] at h⟩
  | k + 1 => by
    obtain ⟨ih0, ih1⟩ := spec_FiguresOk.mono_l k
    refine ⟨?_, ?_⟩ <;> intros <;> (first | unfold spec_FiguresOk.j0 | unfold spec_FiguresOk.l0) <;> with_reducible repeat' first
     | exact ih0 _ _
     | exact ih1 _ _
     | exact LeO.refl _
     | exact LeO.none _
     | refine LeO.ite ?_ ?_
     | refine LeO.bind ?_ (fun _ => ?_)
theorem spec_FiguresOk.mono : ∀ a0 k, LeO (spec_FiguresOk.f k a0) (spec_FiguresOk.f (k + 1) a0) := by
 intro a0 k
 obtain ⟨ih0, ih1⟩ := spec_FiguresOk.mono_l k
 unfold spec_FiguresOk.f
 with_reducible repeat' first
 | exact ih0 _ _
 | exact ih1 _ _
 | exact LeO.refl _
 | exact LeO.none _
 | refine LeO.ite ?_ ?_
 | refine LeO.bind ?_ (fun _ => ?_)
theorem spec_FiguresOk.calls (k : Nat) (a0 : ByteArray) (r : Bool) (w : World) (h : spec_FiguresOk.f k a0 = some r) :
  Calls Tryz.prog 21 #[.string a0] w fun e w' => e = .returned (.bool r) ∧ Drawn0 w w' := by
 have H : ((spec_l01In.f (a0.size : Int) 1 800).bind fun t182 => (if t182 = true then (if (a0.size : Int) > 1 then (if 0 < (a0.size : Int) then (spec_FiguresOk.j0 k a0 ((bt a0 0) == 48)) else (none)) else (spec_FiguresOk.j0 k a0 false)) else (spec_FiguresOk.j0 k a0 true))) = some r := h
 clear h
 have HC2 := Aside0.mk H
 clear H
 go_enter Tryz.func21, Tryz.ntmps21
 go_upto_region 1 with (fail)
 go_cut [17] (fun v17 wc => ∃ (kq : Nat) (x17_1 : Bool), v17 = .bool x17_1 ∧ Aside0 (spec_FiguresOk.j0 kq a0 x17_1 = some r) ∧ Aside0 (kq ≤ k) ∧ Drawn0 w wc)
 case first =>
  have H := HC2.out
  clear HC2
  replace H := zM H
  obtain ⟨t182, A30, H⟩ := H
  try dsimp only at H
  have A3 := Aside0.mk A30
  clear A30
  by_cases c4 : t182 = true
  ·subst c4
   have H1 := H
   rw [if_pos rfl] at H1
   clear H
   have H := H1
   clear H1
   by_cases c5 : (a0.size : Int) > 1
   ·rw [if_pos c5] at H
    have c5b0 : decide (1 < (a0.size : Int)) = true := decide_eq_true c5
    have c5b1 : decide (1 < a0.size) = true := decide_eq_true (by omega)
    clear c5
    (first | rw [c5b0] | (simp only [i64_w, i32_w]; rw [c5b0]) | skip)
    by_cases c6 : 0 < (a0.size : Int)
    ·rw [if_pos c6] at H
     have c6b0 := decide_eq_true c6
     have c6b1 : decide (0 < a0.size) = true := decide_eq_true (by omega)
     clear c6
     have H' := Aside0.mk H
     clear H
     go_wp2_with (first | ((with_reducible refine gate_callee (f := 48) rfl ?_); refine goesL_ (some 6) rfl rfl Tryz.func48 (by kernel_rfl) rfl #[.int .i64 (a0.size : Int), .int .i64 1, .int .i64 800] rfl zL ?_; (with_reducible refine (spec_l01In.calls (a0.size : Int) 1 800 true _ A3.out).mono ?_); rintro e w' ⟨rfl, ⟨nd, rfl⟩⟩; refine ⟨_, rfl, ?_⟩; have p7 : 0 ≤ (0 : Int) := (by omega); have q7 : 0 < a0.size := (by have : (0 : Int) < (a0.size : Int) := of_decide_eq_true zA; omega); have hx7 : ∀ h : 0 < a0.size, ((a0[0]'h).toNat : Int) = bt a0 0 := bt_at a0 0; clear p7; have qi7 : (0 < (a0.size : Int)) = True := eq_true (of_decide_eq_true zA); replace q7 := eq_true q7))
     go_meet
     case rel => exact ⟨_, (((bt a0 0) == 48)), zE, H', ⟨by first | omega | exact Nat.le_refl _⟩, zW⟩
    ·rw [if_neg c6] at H
     exact absurd H (by simp)
   ·rw [if_neg c5] at H
    have c5b0 : decide (1 < (a0.size : Int)) = false := decide_eq_false c5
    have c5b1 : decide (1 < a0.size) = false := decide_eq_false (by omega)
    clear c5
    (first | rw [c5b0] | (simp only [i64_w, i32_w]; rw [c5b0]) | skip)
    have H' := Aside0.mk H
    clear H
    go_wp2_with (first | ((with_reducible refine gate_callee (f := 48) rfl ?_); refine goesL_ (some 6) rfl rfl Tryz.func48 (by kernel_rfl) rfl #[.int .i64 (a0.size : Int), .int .i64 1, .int .i64 800] rfl zL ?_; (with_reducible refine (spec_l01In.calls (a0.size : Int) 1 800 true _ A3.out).mono ?_); rintro e w' ⟨rfl, ⟨nd, rfl⟩⟩; refine ⟨_, rfl, ?_⟩))
    go_meet
    case rel => exact ⟨_, (false), zE, H', ⟨by first | omega | exact Nat.le_refl _⟩, zW⟩
  ·replace c4 := Bool.eq_false_iff.mpr c4
   subst c4
   have H1 := H
   rw [if_neg (show ¬ (false = true) by decide)] at H1
   clear H
   have H := H1
   clear H1
   have H' := Aside0.mk H
   clear H
   go_wp2_with (first | ((with_reducible refine gate_callee (f := 48) rfl ?_); refine goesL_ (some 6) rfl rfl Tryz.func48 (by kernel_rfl) rfl #[.int .i64 (a0.size : Int), .int .i64 1, .int .i64 800] rfl zL ?_; (with_reducible refine (spec_l01In.calls (a0.size : Int) 1 800 false _ A3.out).mono ?_); rintro e w' ⟨rfl, ⟨nd, rfl⟩⟩; refine ⟨_, rfl, ?_⟩))
   go_meet
   case rel => exact ⟨_, (true), zE, H', ⟨by first | omega | exact Nat.le_refl _⟩, zW⟩
 case rest =>
  clear HC2
  try clear hx7
  try clear qi7
  obtain ⟨kq, x17_1, rfl, HA, HJ1, ⟨mc1, rfl⟩⟩ := hcut
  cases kq with
  | zero => exact absurd HA.out (by simp [spec_FiguresOk.j0])
  | succ kj1 =>
   have H := HA.out
   clear HA
   simp only [spec_FiguresOk.j0] at H
   by_cases c8 : x17_1 = true
   ·subst c8
    have H1 : (some false) = some r := by rw [if_pos rfl] at H; exact H
    clear H
    have H := H1
    clear H1
    obtain rfl := Option.some.inj H
    go_wp2
    go_ret
    exact ⟨zE, zW⟩
   ·replace c8 := Bool.eq_false_iff.mpr c8
    subst c8
    have H1 := H
    rw [if_neg (show ¬ (false = true) by decide)] at H1
    clear H
    have H := H1
    clear H1
    have H' := Aside0.mk H
    clear H
    go_wp2
    go_loopg [3] kj1 (fun kq v3 w' => ∃ (x3_2 : Int), v3 = .int .i64 x3_2 ∧ Aside0 (spec_FiguresOk.l0 kq a0 x3_2 = some r) ∧ Aside0 (kq ≤ kj1) ∧ Drawn0 w w')
    case atStart => exact ⟨(0), zE, H', ⟨Nat.le_refl _⟩, zW⟩
    case round =>
     clear H'
     try clear hx7
     try clear qi7
     obtain ⟨x3_2, rfl, HA, HK2, ⟨m2, rfl⟩⟩ := hrel
     cases gk with
     | zero => exact absurd HA.out (by simp [spec_FiguresOk.l0])
     | succ k2 =>
      have H := HA.out
      clear HA
      simp only [spec_FiguresOk.l0] at H
      by_cases c9 : x3_2 < (a0.size : Int)
      ·rw [if_pos c9] at H
       have c9b0 := decide_eq_true c9
       clear c9
       by_cases c10 : 0 ≤ x3_2
       ·rw [if_pos c10] at H
        have c10b0 := decide_eq_true c10
        clear c10
        by_cases c12 : (bt a0 x3_2) < 48
        ·rw [if_pos c12] at H
         have c12b0 := decide_eq_true c12
         clear c12
         obtain rfl := Option.some.inj H
         have p11 : 0 ≤ (x3_2 : Int) := of_decide_eq_true zA
         have q11 : x3_2 < (a0.size : Int) := of_decide_eq_true zA
         have hx11 := bt_at a0 x3_2
         replace p11 := eq_true p11
         replace q11 := eq_true q11
         go_wp2
         go_ret
         exact ⟨zE, zW⟩
        ·rw [if_neg c12] at H
         have c12b0 := decide_eq_false c12
         clear c12
         by_cases c14 : (bt a0 x3_2) > 57
         ·rw [if_pos c14] at H
          have c14b0 : decide (57 < (bt a0 x3_2)) = true := decide_eq_true c14
          clear c14
          obtain rfl := Option.some.inj H
          have p11 : 0 ≤ (x3_2 : Int) := of_decide_eq_true zA
          have q11 : x3_2 < (a0.size : Int) := of_decide_eq_true zA
          have hx11 := bt_at a0 x3_2
          replace p11 := eq_true p11
          replace q11 := eq_true q11
          have p13 : 0 ≤ (x3_2 : Int) := of_decide_eq_true zA
          have q13 : x3_2 < (a0.size : Int) := of_decide_eq_true zA
          have hx13 := bt_at a0 x3_2
          replace p13 := eq_true p13
          replace q13 := eq_true q13
          go_wp2
          go_ret
          exact ⟨zE, zW⟩
         ·rw [if_neg c14] at H
          have c14b0 : decide (57 < (bt a0 x3_2)) = false := decide_eq_false c14
          clear c14
          have H' := Aside0.mk H
          clear H
          have p11 : 0 ≤ (x3_2 : Int) := of_decide_eq_true zA
          have q11 : x3_2 < (a0.size : Int) := of_decide_eq_true zA
          have hx11 := bt_at a0 x3_2
          replace p11 := eq_true p11
          replace q11 := eq_true q11
          have p13 : 0 ≤ (x3_2 : Int) := of_decide_eq_true zA
          have q13 : x3_2 < (a0.size : Int) := of_decide_eq_true zA
          have hx13 := bt_at a0 x3_2
          replace p13 := eq_true p13
          replace q13 := eq_true q13
          go_wp2
          go_roundg k2
          case measure => have := HJ1.out; have := HK2.out; omega
          case rel => exact ⟨(wrap64 (x3_2 + 1)), zE, H', ⟨by have := HJ1.out; have := HK2.out; omega⟩, zW⟩
       ·rw [if_neg c10] at H
        exact absurd H (by simp)
      ·rw [if_neg c9] at H
       have c9b0 := decide_eq_false c9
       clear c9
       obtain rfl := Option.some.inj H
       go_wp2
       go_ret
       exact ⟨zE, zW⟩

def spec_l07Zero.l0 : Nat → ByteArray → Int → Option (Bool)
 | 0, _, _ => none
 | k + 1, x0, x3 => if x3 < (x0.size : Int) then (if 0 ≤ x3 then (if (bt x0 x3) = 48 then (spec_l07Zero.l0 k x0 (wrap64 (x3 + 1))) else (some false)) else (none)) else (some true)
def spec_l07Zero.f (k : Nat) (a0 : ByteArray) : Option (Bool) := spec_l07Zero.l0 k a0 0
theorem spec_l07Zero.mono_l : ∀ k, (∀ y0 y1, LeO (spec_l07Zero.l0 k y0 y1) (spec_l07Zero.l0 (k + 1) y0 y1))
  | 0 => fun _ _ r h => by simp [spec_l07Zero.l0] at h
  | k + 1 => by
    have ih0 := spec_l07Zero.mono_l k
    · intro y0 y1
      unfold spec_l07Zero.l0
      with_reducible repeat' first
      | exact ih0 _ _
      | exact LeO.refl _
      | exact LeO.none _
      | refine LeO.ite ?_ ?_
      | refine LeO.bind ?_ (fun _ => ?_)
theorem spec_l07Zero.mono : ∀ a0 k, LeO (spec_l07Zero.f k a0) (spec_l07Zero.f (k + 1) a0) := by
 intro a0 k
 have ih0 := spec_l07Zero.mono_l k
 unfold spec_l07Zero.f
 with_reducible repeat' first
 | exact ih0 _ _
 | exact LeO.refl _
 | exact LeO.none _
 | refine LeO.ite ?_ ?_
 | refine LeO.bind ?_ (fun _ => ?_)
theorem spec_l07Zero.calls (k : Nat) (a0 : ByteArray) (r : Bool) (w : World) (h : spec_l07Zero.f k a0 = some r) :
  Calls Tryz.prog 49 #[.string a0] w fun e w' => e = .returned (.bool r) ∧ Drawn0 w w' := by
 have H : (spec_l07Zero.l0 k a0 0) = some r := h
 clear h
 have H' := Aside0.mk H
 clear H
 go_enter Tryz.func49, Tryz.ntmps49
 go_wp2
 go_loopg [3] k (fun kq v3 w' => ∃ (x3_1 : Int), v3 = .int .i64 x3_1 ∧ Aside0 (spec_l07Zero.l0 kq a0 x3_1 = some r) ∧ Aside0 (kq ≤ k) ∧ Drawn0 w w')
 case atStart => exact ⟨(0), zE, H', ⟨Nat.le_refl _⟩, zW⟩
 case round =>
  clear H'
  obtain ⟨x3_1, rfl, HA, HK1, ⟨m1, rfl⟩⟩ := hrel
  cases gk with
  | zero => exact absurd HA.out (by simp [spec_l07Zero.l0])
  | succ k1 =>
   have H := HA.out
   clear HA
   simp only [spec_l07Zero.l0] at H
   by_cases c2 : x3_1 < (a0.size : Int)
   ·rw [if_pos c2] at H
    have c2b0 := decide_eq_true c2
    clear c2
    by_cases c3 : 0 ≤ x3_1
    ·rw [if_pos c3] at H
     have c3b0 := decide_eq_true c3
     clear c3
     by_cases c5 : (bt a0 x3_1) = 48
     ·rw [if_pos c5] at H
      have c5b0 : ((bt a0 x3_1) == 48) = true := beq_iff_eq.mpr c5
      have c5b1 : ((bt a0 x3_1) != 48) = false := bne_eq_false_iff_eq.mpr c5
      clear c5
      have H' := Aside0.mk H
      clear H
      have p4 : 0 ≤ (x3_1 : Int) := of_decide_eq_true zA
      have q4 : x3_1 < (a0.size : Int) := of_decide_eq_true zA
      have hx4 := bt_at a0 x3_1
      replace p4 := eq_true p4
      replace q4 := eq_true q4
      go_wp2
      go_roundg k1
      case measure => have := HK1.out; omega
      case rel => exact ⟨(wrap64 (x3_1 + 1)), zE, H', ⟨by have := HK1.out; omega⟩, zW⟩
     ·rw [if_neg c5] at H
      have c5b0 : ((bt a0 x3_1) == 48) = false := beq_eq_false_iff_ne.mpr c5
      have c5b1 : ((bt a0 x3_1) != 48) = true := bne_iff_ne.mpr c5
      obtain rfl := Option.some.inj H
      have p4 : 0 ≤ (x3_1 : Int) := of_decide_eq_true zA
      have q4 : x3_1 < (a0.size : Int) := of_decide_eq_true zA
      have hx4 := bt_at a0 x3_1
      replace p4 := eq_true p4
      replace q4 := eq_true q4
      go_wp2
      go_ret
      exact ⟨zE, zW⟩
    ·rw [if_neg c3] at H
     exact absurd H (by simp)
   ·rw [if_neg c2] at H
    have c2b0 := decide_eq_false c2
    clear c2
    obtain rfl := Option.some.inj H
    go_wp2
    go_ret
    exact ⟨zE, zW⟩

def spec_l07MulAdd.l0 : Nat → List Int → Int → Int → List Int → Int → Option (List Int)
 | 0, _, _, _, _, _ => none
 | k + 1, x0, x1, x2, x7, x8 => if x8 < (x0.length : Int) then (if 0 ≤ x8 then (if x7.length < 17592186044416 then (spec_l07MulAdd.l0 k x0 x1 (IntKind.u64.wrap (Int.tdiv (IntKind.u64.wrap ((IntKind.u64.wrap ((rd x0 x8) * x1)) + x2)) 4294967296)) (x7 ++ [Int.tmod (IntKind.u64.wrap ((IntKind.u64.wrap ((rd x0 x8) * x1)) + x2)) 4294967296]) (wrap64 (x8 + 1))) else (none)) else (none)) else (if x2 > 0 then (if x7.length < 17592186044416 then (some (x7 ++ [x2])) else (none)) else (some x7))
def spec_l07MulAdd.f (k : Nat) (l0 : List Int) (a1 : Int) (a2 : Int) : Option (List Int) := spec_l07MulAdd.l0 k l0 a1 a2 (([] : List Int)) 0
theorem spec_l07MulAdd.mono_l : ∀ k, (∀ y0 y1 y2 y3 y4, LeO (spec_l07MulAdd.l0 k y0 y1 y2 y3 y4) (spec_l07MulAdd.l0 (k + 1) y0 y1 y2 y3 y4))
  | 0 => fun _ _ _ _ _ r h => by simp [spec_l07MulAdd.l0] at h
  | k + 1 => by
    have ih0 := spec_l07MulAdd.mono_l k
    · intro y0 y1 y2 y3 y4
      unfold spec_l07MulAdd.l0
      with_reducible repeat' first
      | exact ih0 _ _ _ _ _
      | exact LeO.refl _
      | exact LeO.none _
      | refine LeO.ite ?_ ?_
      | refine LeO.bind ?_ (fun _ => ?_)
theorem spec_l07MulAdd.mono : ∀ a0 a1 a2 k, LeO (spec_l07MulAdd.f k a0 a1 a2) (spec_l07MulAdd.f (k + 1) a0 a1 a2) := by
 intro a0 a1 a2 k
 have ih0 := spec_l07MulAdd.mono_l k
 unfold spec_l07MulAdd.f
 with_reducible repeat' first
 | exact ih0 _ _ _ _ _
 | exact LeO.refl _
 | exact LeO.none _
 | refine LeO.ite ?_ ?_
 | refine LeO.bind ?_ (fun _ => ?_)
theorem spec_l07MulAdd.calls (k : Nat) (A0 : Option Addr) (c0 : Nat) (l0 : List Int) (a1 : Int) (a2 : Int) (r : List Int) (w : World) (hr0 : Kd.C (Kd.int .u64) w A0 l0.length l0) (hc0 : l0.length ≤ c0) (h : spec_l07MulAdd.f k l0 a1 a2 = some r) :
  Calls Tryz.prog 51 #[.slice A0 l0.length c0, .int .u64 a1, .int .u64 a2] w fun e w' => ∃ v0_ : Value, e = .returned (v0_) ∧ Kd.R (Kd.int .u64) 24 w' w.heap.size (fun _ => True) v0_ r ∧ Below w.heap.size w w' := by
 have HR0 := Aside0.mk hr0
 have HC0 := Aside0.mk hc0
 clear hr0 hc0
 have HB := Aside0.mk (Below.refl w.heap.size w)
 have H : (spec_l07MulAdd.l0 k l0 a1 a2 (([] : List Int)) 0) = some r := h
 clear h
 obtain ⟨y183, hy183⟩ : ∃ y_ : List Int, y_ = (([] : List Int)) := ⟨_, rfl⟩
 replace H : (spec_l07MulAdd.l0 k l0 a1 a2 y183 0) = some r := zT hy183 H
 have Ny183 := Aside0.mk hy183
 clear hy183
 have H' := Aside0.mk H
 clear H
 go_enter Tryz.func51, Tryz.ntmps51
 go_wp2_with (first | ((with_reducible refine gate_dst (N := 10) rfl ?_); refine Kd.R_lit (Kd.int .u64) _ 24 ?hg (N := 10) ?hd (xs := ([] : List Int)) (inner := []) (ok := fun _ => True) (okp := fun _ => True) ?hr ?hp (fun _ hk => hk) trivial (Below.refl _ _) (Nat.le_refl _) (by simp) ?_; (case hd => rfl); (case hg => rfl); (case hr => first | (go_simp; done) | (go_simp; rfl)); (case hp => exact (Reps.none _ _)); intro v184 w4 ho5 hb hg_ hnew_; clear hg_ hnew_; (first | rw [← Ny183.out] at ho5 | (simp only [Int.reduceToNat] at ho5; rw [← Ny183.out] at ho5)); have n0_ := Aside0.mk (Kd.R_lower ho5 (below_size zB)); have n1_ := Aside0.mk (below_step zB hb); clear HB; have HO185 := n0_; have HB := n1_; clear n0_ n1_; clear hb ho5))
 go_loopg [2, 7, 8] k (fun kq v2 v7 v8 w' => ∃ (x2_1 : Int) (x7_1 : List Int) (x8_1 : Int), v2 = .int .u64 x2_1 ∧ v8 = .int .i64 x8_1 ∧ Aside0 (spec_l07MulAdd.l0 kq l0 a1 x2_1 x7_1 x8_1 = some r) ∧ Aside0 (kq ≤ k) ∧ Aside0 (Kd.R (Kd.int .u64) 24 w' w.heap.size (fun _ => True) v7 x7_1) ∧ Aside0 (Below w.heap.size w w'))
 case atStart => exact ⟨(a2), (y183), (0), zE, zE, H', ⟨Nat.le_refl _⟩, ⟨zR HO185.out⟩, ⟨zB⟩⟩
 case round =>
  clear H'
  obtain ⟨x2_1, x7_1, x8_1, rfl, rfl, HA, HK1, HO_7, HB⟩ := hrel
  cases gk with
  | zero => exact absurd HA.out (by simp [spec_l07MulAdd.l0])
  | succ k1 =>
   have H := HA.out
   clear HA
   simp only [spec_l07MulAdd.l0] at H
   by_cases c6 : x8_1 < (l0.length : Int)
   ·rw [if_pos c6] at H
    have c6b0 := decide_eq_true c6
    clear c6
    by_cases c7 : 0 ≤ x8_1
    ·rw [if_pos c7] at H
     have c7b0 := decide_eq_true c7
     clear c7
     by_cases c8 : x7_1.length < 17592186044416
     ·rw [if_pos c8] at H
      have LMc8 := Aside0.mk c8
      clear c8
      obtain ⟨y187, hy187⟩ : ∃ y_ : List Int, y_ = (x7_1 ++ [Int.tmod (IntKind.u64.wrap ((IntKind.u64.wrap ((rd l0 x8_1) * a1)) + x2_1)) 4294967296]) := ⟨_, rfl⟩
      replace H : (spec_l07MulAdd.l0 k1 l0 a1 (IntKind.u64.wrap (Int.tdiv (IntKind.u64.wrap ((IntKind.u64.wrap ((rd l0 x8_1) * a1)) + x2_1)) 4294967296)) y187 (wrap64 (x8_1 + 1))) = some r := zT hy187 H
      have Ny187 := Aside0.mk hy187
      clear hy187
      have H' := Aside0.mk H
      clear H
      have p186 : 0 ≤ (x8_1 : Int) := of_decide_eq_true zA
      have q186 : x8_1 < (l0.length : Int) := of_decide_eq_true zA
      obtain ⟨ad186, e186, hx186_0⟩ := Kd.at_int HR0.out x8_1 p186 q186
      cases e186
      replace hx186_0 := (HB.out.cell (World.block_lt_of_cell? w _ hx186_0)).trans hx186_0
      replace p186 := eq_true p186
      replace q186 := eq_true q186
      go_wp2_with (first | ((with_reducible refine gate_builtin (b := .append) (xs := #[.tmp 25, .tmp 28]) rfl ?_); at_builtin; refine Kd.R_append (Kd.int .u64) (w0 := w) w.heap.size rfl (.tmp 25) (.tmp 28) 51 24 (.int .u64 0) 8 rfl Tryz.underlying51 info24 rfl (by decide) (by omega) u7 x7_1 (Int.tmod (IntKind.u64.wrap ((IntKind.u64.wrap ((rd l0 x8_1) * a1)) + x2_1)) 4294967296) [.int .u64 (Int.tmod (IntKind.u64.wrap ((IntKind.u64.wrap ((rd l0 x8_1) * a1)) + x2_1)) 4294967296)] (fun _ => True) (fun _ => False) rfl rfl ?aP (fun _ hk => hk.elim) ?aF ?aO ?aB ?aS ?aL ?_; (case aP => exact rfl); (case aB => exact zB); (case aF => exact (fun _ _ => trivial)); (case aO => exact (zR HO_7.out)); (case aS => exact (below_size zB)); (case aL => have := LMc8.out; omega); intro v188 w9 ho hb hg hat; rw [← Ny187.out] at ho; have n0_ := Aside0.mk (hb); have n1_ := Aside0.mk (ho); clear HB; clear HO_7; have HB := n0_; have HO189 := n1_; clear n0_ n1_; clear ho hb hg hat))
      go_roundg k1
      case measure => have := HK1.out; omega
      case rel => exact ⟨(IntKind.u64.wrap (Int.tdiv (IntKind.u64.wrap ((IntKind.u64.wrap ((rd l0 x8_1) * a1)) + x2_1)) 4294967296)), (y187), (wrap64 (x8_1 + 1)), zE, zE, H', ⟨by have := HK1.out; omega⟩, ⟨zR HO189.out⟩, ⟨zB⟩⟩
     ·rw [if_neg c8] at H
      exact absurd H (by simp)
    ·rw [if_neg c7] at H
     exact absurd H (by simp)
   ·rw [if_neg c6] at H
    have c6b0 := decide_eq_false c6
    clear c6
    by_cases c10 : x2_1 > 0
    ·rw [if_pos c10] at H
     have c10b0 : decide (0 < x2_1) = true := decide_eq_true c10
     clear c10
     by_cases c11 : x7_1.length < 17592186044416
     ·rw [if_pos c11] at H
      have LMc11 := Aside0.mk c11
      clear c11
      obtain ⟨y190, hy190⟩ : ∃ y_ : List Int, y_ = (x7_1 ++ [x2_1]) := ⟨_, rfl⟩
      replace H : (some y190) = some r := zT hy190 H
      have Ny190 := Aside0.mk hy190
      clear hy190
      obtain rfl := Option.some.inj H
      go_wp2_with (first | ((with_reducible refine gate_builtin (b := .append) (xs := #[.tmp 34, .tmp 36]) rfl ?_); at_builtin; refine Kd.R_append (Kd.int .u64) (w0 := w) w.heap.size rfl (.tmp 34) (.tmp 36) 51 24 (.int .u64 0) 8 rfl Tryz.underlying51 info24 rfl (by decide) (by omega) u7 x7_1 x2_1 [.int .u64 x2_1] (fun _ => True) (fun _ => False) rfl rfl ?aP (fun _ hk => hk.elim) ?aF ?aO ?aB ?aS ?aL ?_; (case aP => exact rfl); (case aB => exact zB); (case aF => exact (fun _ _ => trivial)); (case aO => exact (zR HO_7.out)); (case aS => exact (below_size zB)); (case aL => have := LMc11.out; omega); intro v191 w12 ho hb hg hat; rw [← Ny190.out] at ho; have n0_ := Aside0.mk (hb); have n1_ := Aside0.mk (ho); clear HB; clear HO_7; have HB := n0_; have HO192 := n1_; clear n0_ n1_; clear ho hb hg hat))
      go_ret
      exact ⟨_, by first | rfl | (simp [errW_none, errW_some] <;> rfl) | (simp [*, errW_none, errW_some] <;> rfl), by (with_reducible repeat (first | apply Kd.R_alloc | apply Kd.R_drewN | apply Kd.R_drew)); exact HO192.out, zB⟩
     ·rw [if_neg c11] at H
      exact absurd H (by simp)
    ·rw [if_neg c10] at H
     have c10b0 : decide (0 < x2_1) = false := decide_eq_false c10
     clear c10
     obtain rfl := Option.some.inj H
     go_wp2
     go_ret
     exact ⟨_, by first | rfl | (simp [errW_none, errW_some] <;> rfl) | (simp [*, errW_none, errW_some] <;> rfl), by (with_reducible repeat (first | apply Kd.R_alloc | apply Kd.R_drewN | apply Kd.R_drew)); exact HO_7.out, zB⟩

def spec_l07Bin.l0 : Nat → ByteArray → List Int → Int → Option (List Int)
 | 0, _, _, _ => none
 | k + 1, x0, x3, x4 => if x4 < (x0.size : Int) then (if 0 ≤ x4 then ((spec_l07MulAdd.f k x3 10 (IntKind.u64.wrap ((IntKind.u64.wrap (bt x0 x4)) - 48))).bind fun t196 => (spec_l07Bin.l0 k x0 t196 (wrap64 (x4 + 1)))) else (none)) else (some x3)
def spec_l07Bin.f (k : Nat) (a0 : ByteArray) : Option (List Int) := spec_l07Bin.l0 k a0 (([] : List Int)) 0
theorem spec_l07Bin.mono_l : ∀ k, (∀ y0 y1 y2, LeO (spec_l07Bin.l0 k y0 y1 y2) (spec_l07Bin.l0 (k + 1) y0 y1 y2))
  | 0 => fun _ _ _ r h => by simp [spec_l07Bin.l0] at h
  | k + 1 => by
    have ih0 := spec_l07Bin.mono_l k
    · intro y0 y1 y2
      unfold spec_l07Bin.l0
      with_reducible repeat' first
      | exact ih0 _ _ _
      | exact spec_l07MulAdd.mono _ _ _ _
      | exact LeO.refl _
      | exact LeO.none _
      | refine LeO.ite ?_ ?_
      | refine LeO.bind ?_ (fun _ => ?_)
theorem spec_l07Bin.mono : ∀ a0 k, LeO (spec_l07Bin.f k a0) (spec_l07Bin.f (k + 1) a0) := by
 intro a0 k
 have ih0 := spec_l07Bin.mono_l k
 unfold spec_l07Bin.f
 with_reducible repeat' first
 | exact ih0 _ _ _
 | exact spec_l07MulAdd.mono _ _ _ _
 | exact LeO.refl _
 | exact LeO.none _
 | refine LeO.ite ?_ ?_
 | refine LeO.bind ?_ (fun _ => ?_)
theorem spec_l07Bin.calls (k : Nat) (a0 : ByteArray) (r : List Int) (w : World) (h : spec_l07Bin.f k a0 = some r) :
  Calls Tryz.prog 50 #[.string a0] w fun e w' => ∃ v0_ : Value, e = .returned (v0_) ∧ Kd.R (Kd.int .u64) 24 w' w.heap.size (fun _ => True) v0_ r ∧ Below w.heap.size w w' := by
 have HB := Aside0.mk (Below.refl w.heap.size w)
 have H : (spec_l07Bin.l0 k a0 (([] : List Int)) 0) = some r := h
 clear h
 obtain ⟨y193, hy193⟩ : ∃ y_ : List Int, y_ = (([] : List Int)) := ⟨_, rfl⟩
 replace H : (spec_l07Bin.l0 k a0 y193 0) = some r := zT hy193 H
 have Ny193 := Aside0.mk hy193
 clear hy193
 have H' := Aside0.mk H
 clear H
 go_enter Tryz.func50, Tryz.ntmps50
 go_wp2_with (first | ((with_reducible refine gate_dst (N := 5) rfl ?_); refine Kd.R_lit (Kd.int .u64) _ 24 ?hg (N := 5) ?hd (xs := ([] : List Int)) (inner := []) (ok := fun _ => True) (okp := fun _ => True) ?hr ?hp (fun _ hk => hk) trivial (Below.refl _ _) (Nat.le_refl _) (by simp) ?_; (case hd => rfl); (case hg => rfl); (case hr => first | (go_simp; done) | (go_simp; rfl)); (case hp => exact (Reps.none _ _)); intro v194 w2 ho3 hb hg_ hnew_; clear hg_ hnew_; (first | rw [← Ny193.out] at ho3 | (simp only [Int.reduceToNat] at ho3; rw [← Ny193.out] at ho3)); have n0_ := Aside0.mk (Kd.R_lower ho3 (below_size zB)); have n1_ := Aside0.mk (below_step zB hb); clear HB; have HO195 := n0_; have HB := n1_; clear n0_ n1_; clear hb ho3))
 go_loopg [3, 4] k (fun kq v3 v4 w' => ∃ (x3_1 : List Int) (x4_1 : Int), v4 = .int .i64 x4_1 ∧ Aside0 (spec_l07Bin.l0 kq a0 x3_1 x4_1 = some r) ∧ Aside0 (kq ≤ k) ∧ Aside0 (Kd.R (Kd.int .u64) 24 w' w.heap.size (fun _ => True) v3 x3_1) ∧ Aside0 (Below w.heap.size w w'))
 case atStart => exact ⟨(y193), (0), zE, H', ⟨Nat.le_refl _⟩, ⟨zR HO195.out⟩, ⟨zB⟩⟩
 case round =>
  clear H'
  obtain ⟨x3_1, x4_1, rfl, HA, HK1, HO_3, HB⟩ := hrel
  cases gk with
  | zero => exact absurd HA.out (by simp [spec_l07Bin.l0])
  | succ k1 =>
   have H := HA.out
   clear HA
   simp only [spec_l07Bin.l0] at H
   by_cases c4 : x4_1 < (a0.size : Int)
   ·rw [if_pos c4] at H
    have c4b0 := decide_eq_true c4
    clear c4
    by_cases c5 : 0 ≤ x4_1
    ·rw [if_pos c5] at H
     have c5b0 := decide_eq_true c5
     clear c5
     replace H := zM H
     obtain ⟨t196, A70, H⟩ := H
     try dsimp only at H
     have A7 := Aside0.mk A70
     clear A70
     have H' := Aside0.mk H
     clear H
     have p6 : 0 ≤ (x4_1 : Int) := of_decide_eq_true zA
     have q6 : x4_1 < (a0.size : Int) := of_decide_eq_true zA
     have hx6 := bt_at a0 x4_1
     replace p6 := eq_true p6
     replace q6 := eq_true q6
     obtain ⟨Ao8, co8, eo8⟩ := Kd.R_slice HO_3.out
     subst eo8
     go_wp2_with (first | ((with_reducible refine gate_callee (f := 51) rfl ?_); refine goesL_ (some 18) rfl rfl Tryz.func51 (by kernel_rfl) rfl #[.slice Ao8 x3_1.length co8, .int .u64 10, .int .u64 (IntKind.u64.wrap ((IntKind.u64.wrap (bt a0 x4_1)) - 48))] rfl zL ?_; (with_reducible refine (spec_l07MulAdd.calls k1 _ _ x3_1 10 (IntKind.u64.wrap ((IntKind.u64.wrap (bt a0 x4_1)) - 48)) t196 _ ?side1 ?side2 A7.out).mono ?_); (case side1 => exact zP (Kd.R_reads' HO_3.out).2.2); (case side2 => exact (Kd.R_reads' HO_3.out).2.1); rintro e w9 ⟨v197, rfl, ho0, hb⟩; refine ⟨_, rfl, ?_⟩; have n0_ := Aside0.mk (Kd.R_elder' (zR HO_3.out) (Kd.R_base ho0) hb); have n1_ := Aside0.mk (Kd.R_lower (Kd.R_new' ho0 (Kd.R_lt (zR HO_3.out))) (below_size zB)); have n2_ := Aside0.mk (below_step zB hb); clear HO_3; clear HB; have HO_3 := n0_; have HO198 := n1_; have HB := n2_; clear n0_ n1_ n2_; (try clear hb); (try clear ho0)))
     go_roundg k1
     case measure => have := HK1.out; omega
     case rel => exact ⟨(t196), (wrap64 (x4_1 + 1)), zE, H', ⟨by have := HK1.out; omega⟩, ⟨by (with_reducible repeat (first | apply Kd.R_alloc | apply Kd.R_drewN | apply Kd.R_drew)); exact Kd.R_mono HO198.out (fun _ hk => trivial)⟩, ⟨zB⟩⟩
    ·rw [if_neg c5] at H
     exact absurd H (by simp)
   ·rw [if_neg c4] at H
    have c4b0 := decide_eq_false c4
    clear c4
    obtain rfl := Option.some.inj H
    go_wp2
    go_ret
    exact ⟨_, by first | rfl | (simp [errW_none, errW_some] <;> rfl) | (simp [*, errW_none, errW_some] <;> rfl), by (with_reducible repeat (first | apply Kd.R_alloc | apply Kd.R_drewN | apply Kd.R_drew)); exact HO_3.out, zB⟩

def spec_l03Sign.f (k : Nat) (a0 : Int) (a1 : Bool) : Option (Int) := if a1 = true then ((spec_l03Pow.f k 63).bind fun t199 => (some (IntKind.u64.wrap (a0 + t199)))) else (some a0)
theorem spec_l03Sign.mono : ∀ a0 a1 k, LeO (spec_l03Sign.f k a0 a1) (spec_l03Sign.f (k + 1) a0 a1) := by
 intro a0 a1 k
 unfold spec_l03Sign.f
 with_reducible repeat' first
 | exact spec_l03Pow.mono _ _
 | exact LeO.refl _
 | exact LeO.none _
 | refine LeO.ite ?_ ?_
 | refine LeO.bind ?_ (fun _ => ?_)
theorem spec_l03Sign.calls (k : Nat) (a0 : Int) (a1 : Bool) (r : Int) (w : World) (h : spec_l03Sign.f k a0 a1 = some r) :
  Calls Tryz.prog 128 #[.int .u64 a0, .bool a1] w fun e w' => e = .returned (.int .u64 r) ∧ Drawn0 w w' := by
 have H : (if a1 = true then ((spec_l03Pow.f k 63).bind fun t199 => (some (IntKind.u64.wrap (a0 + t199)))) else (some a0)) = some r := h
 clear h
 by_cases c3 : a1 = true
 ·subst c3
  have H1 := H
  rw [if_pos rfl] at H1
  clear H
  have H := H1
  clear H1
  replace H := zM H
  obtain ⟨t199, A40, H⟩ := H
  replace H : (some (IntKind.u64.wrap (a0 + t199))) = some r := H
  have A4 := Aside0.mk A40
  clear A40
  obtain rfl := Option.some.inj H
  go_enter Tryz.func128, Tryz.ntmps128
  go_wp2_with (first | ((with_reducible refine gate_callee (f := 60) rfl ?_); refine goesL_ (some 7) rfl rfl Tryz.func60 (by kernel_rfl) rfl #[.int .i64 63] rfl zL ?_; (with_reducible refine (spec_l03Pow.calls k 63 t199 _ A4.out).mono ?_); rintro e w' ⟨rfl, ⟨nd, rfl⟩⟩; refine ⟨_, rfl, ?_⟩))
  go_ret
  exact ⟨zE, zW⟩
 ·replace c3 := Bool.eq_false_iff.mpr c3
  subst c3
  have H1 : (some a0) = some r := by rw [if_neg (show ¬ (false = true) by decide)] at H; exact H
  clear H
  have H := H1
  clear H1
  obtain rfl := Option.some.inj H
  go_enter Tryz.func128, Tryz.ntmps128
  go_wp2
  go_ret
  exact ⟨zE, zW⟩

end Go.Proofs.YtkjpelgdppmbjaaGreatDoor.MFnExactShowNumber
