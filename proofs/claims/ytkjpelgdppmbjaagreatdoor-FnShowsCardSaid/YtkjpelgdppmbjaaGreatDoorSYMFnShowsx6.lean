-- by this session's own program mp.py over the kit's printer
import Derived.Test.YtkjpelgdppmbjaaGreatDoorSYZip
import Derived.Test.YtkjpelgdppmbjaaGreatDoorSYMFnShowsx0
import Derived.Test.YtkjpelgdppmbjaaGreatDoorSYMFnShowsx4
import Derived.Test.YtkjpelgdppmbjaaGreatDoorSYMFnShowsx5
namespace Go.Proofs.YtkjpelgdppmbjaaGreatDoor.MFnShows
open Go.RowKit YtkjpelgdppmbjaaGreatDoorW.PrintWords YtkjpelgdppmbjaaGreatDoorW.PrintLast YtkjpelgdppmbjaaGreatDoorW.PrintMore
set_option maxHeartbeats 8000000
set_option maxRecDepth 100000
noncomputable section
attribute [local go_sem] max2_int min2_int max_two min_two max_three min_three max_four min_four
set_option linter.unusedVariables false
set_option linter.unusedSimpArgs false

mutual
def impl_ReadNumber.j0 : Nat → ByteArray → ByteArray → Int → Int → Bool → Option (Int × Bool)
 | 0, _, _, _, _, _ => none
 | k + 1, x0, x5, x6, x7, x31 => if x31 = true then ((impl_digitRun.f k x0 (wrap64 (x6 + 1))).bind fun t234 => ((impl_within.f t234 1 30).bind fun t235 => (if t235 = true then (if 0 ≤ (wrap64 (x6 + 1)) then (if (wrap64 (x6 + 1)) ≤ (wrap64 ((wrap64 (x6 + 1)) + t234)) then (if (wrap64 ((wrap64 (x6 + 1)) + t234)) ≤ (x0.size : Int) then (if x5.size + (x0.extract ((wrap64 (x6 + 1)) : Int).toNat ((wrap64 ((wrap64 (x6 + 1)) + t234)) : Int).toNat).size ≤ 9223372036854775807 then (impl_ReadNumber.j1 k x0 (x5 ++ (x0.extract ((wrap64 (x6 + 1)) : Int).toNat ((wrap64 ((wrap64 (x6 + 1)) + t234)) : Int).toNat)) (wrap64 ((wrap64 (x6 + 1)) + t234)) (wrap64 (-t234))) else (none)) else (none)) else (none)) else (none)) else (some (0, false))))) else (impl_ReadNumber.j1 k x0 x5 x6 x7)
def impl_ReadNumber.j1 : Nat → ByteArray → ByteArray → Int → Int → Option (Int × Bool)
 | 0, _, _, _, _ => none
 | k + 1, x0, x5, x6, x7 => if x6 < (x0.size : Int) then (if 0 ≤ x6 then (impl_ReadNumber.j2 k x0 x5 x6 x7 ((bt x0 x6) == 101)) else (none)) else (impl_ReadNumber.j2 k x0 x5 x6 x7 false)
def impl_ReadNumber.j2 : Nat → ByteArray → ByteArray → Int → Int → Bool → Option (Int × Bool)
 | 0, _, _, _, _, _ => none
 | k + 1, x0, x5, x6, x7, x64 => if x64 = true then (if (wrap64 (x6 + 1)) < (x0.size : Int) then (if 0 ≤ (wrap64 (x6 + 1)) then (impl_ReadNumber.j3 k x0 x5 (wrap64 (x6 + 1)) x7 ((bt x0 (wrap64 (x6 + 1))) == 45)) else (none)) else (impl_ReadNumber.j3 k x0 x5 (wrap64 (x6 + 1)) x7 false)) else (impl_ReadNumber.j6 k x0 x5 x6 x7)
def impl_ReadNumber.j6 : Nat → ByteArray → ByteArray → Int → Int → Option (Int × Bool)
 | 0, _, _, _, _ => none
 | k + 1, x0, x5, x6, x7 => if x6 = (x0.size : Int) then ((strings_TrimLeft.f x5 (⟨#[48]⟩ : ByteArray)).bind fun t240 => (if t240.toList = ([] : List UInt8) then ((impl_Nearest.f (⟨#[48]⟩ : ByteArray) x7).bind fun t241 => (some (t241, true))) else ((impl_Nearest.f t240 x7).bind fun t242 => (some (t242, true))))) else (some (0, false))
def impl_ReadNumber.j3 : Nat → ByteArray → ByteArray → Int → Int → Bool → Option (Int × Bool)
 | 0, _, _, _, _, _ => none
 | k + 1, x0, x5, x6, x7, x9 => if x9 = true then (impl_ReadNumber.j4 k x0 x5 x6 x7 x9 true) else (if x6 < (x0.size : Int) then (if 0 ≤ x6 then (impl_ReadNumber.j4 k x0 x5 x6 x7 x9 ((bt x0 x6) == 43)) else (none)) else (impl_ReadNumber.j4 k x0 x5 x6 x7 x9 false))
def impl_ReadNumber.j4 : Nat → ByteArray → ByteArray → Int → Int → Bool → Bool → Option (Int × Bool)
 | 0, _, _, _, _, _, _ => none
 | k + 1, x0, x5, x6, x7, x9, x89 => if x89 = true then (impl_ReadNumber.j5 k x0 x5 (wrap64 (x6 + 1)) x7 x9) else (impl_ReadNumber.j5 k x0 x5 x6 x7 x9)
def impl_ReadNumber.j5 : Nat → ByteArray → ByteArray → Int → Int → Bool → Option (Int × Bool)
 | 0, _, _, _, _, _ => none
 | k + 1, x0, x5, x6, x7, x9 => (impl_digitRun.f k x0 x6).bind fun t236 => ((impl_within.f t236 1 3).bind fun t237 => (if t237 = true then (if 0 ≤ x6 then (if x6 ≤ (wrap64 (x6 + t236)) then (if (wrap64 (x6 + t236)) ≤ (x0.size : Int) then ((strconv_Atoi.f (x0.extract (x6 : Int).toNat ((wrap64 (x6 + t236)) : Int).toNat)).bind fun bt238 => (if x9 = true then (impl_ReadNumber.j6 k x0 x5 (wrap64 (x6 + t236)) (wrap64 (x7 + (wrap64 (-bt238.1))))) else (impl_ReadNumber.j6 k x0 x5 (wrap64 (x6 + t236)) (wrap64 (x7 + bt238.1))))) else (none)) else (none)) else (none)) else (some (0, false))))
end
def impl_ReadNumber.f (k : Nat) (a0 : ByteArray) : Option (Int × Bool) := (impl_digitRun.f k a0 0).bind fun t232 => ((impl_within.f t232 1 30).bind fun t233 => (if t233 = true then (if 0 ≤ t232 then (if t232 ≤ (a0.size : Int) then (if t232 < (a0.size : Int) then (impl_ReadNumber.j0 k a0 (a0.extract 0 (t232 : Int).toNat) t232 0 ((bt a0 t232) == 46)) else (impl_ReadNumber.j0 k a0 (a0.extract 0 (t232 : Int).toNat) t232 0 false)) else (none)) else (none)) else (some (0, false))))
theorem impl_ReadNumber.mono_l : ∀ k, (∀ y0 y1 y2 y3 y4, LeO (impl_ReadNumber.j0 k y0 y1 y2 y3 y4) (impl_ReadNumber.j0 (k + 1) y0 y1 y2 y3 y4)) ∧ (∀ y0 y1 y2 y3, LeO (impl_ReadNumber.j1 k y0 y1 y2 y3) (impl_ReadNumber.j1 (k + 1) y0 y1 y2 y3)) ∧ (∀ y0 y1 y2 y3 y4, LeO (impl_ReadNumber.j2 k y0 y1 y2 y3 y4) (impl_ReadNumber.j2 (k + 1) y0 y1 y2 y3 y4)) ∧ (∀ y0 y1 y2 y3, LeO (impl_ReadNumber.j6 k y0 y1 y2 y3) (impl_ReadNumber.j6 (k + 1) y0 y1 y2 y3)) ∧ (∀ y0 y1 y2 y3 y4, LeO (impl_ReadNumber.j3 k y0 y1 y2 y3 y4) (impl_ReadNumber.j3 (k + 1) y0 y1 y2 y3 y4)) ∧ (∀ y0 y1 y2 y3 y4 y5, LeO (impl_ReadNumber.j4 k y0 y1 y2 y3 y4 y5) (impl_ReadNumber.j4 (k + 1) y0 y1 y2 y3 y4 y5)) ∧ (∀ y0 y1 y2 y3 y4, LeO (impl_ReadNumber.j5 k y0 y1 y2 y3 y4) (impl_ReadNumber.j5 (k + 1) y0 y1 y2 y3 y4))
  | 0 => ⟨fun _ _ _ _ _ r h => by simp [impl_ReadNumber.j0] at h, fun _ _ _ _ r h => by simp [impl_ReadNumber.j1] at h, fun _ _ _ _ _ r h => by simp [impl_ReadNumber.j2] at h, fun _ _ _ _ r h => by simp [impl_ReadNumber.j6] at h, fun _ _ _ _ _ r h => by simp [impl_ReadNumber.j3] at h, fun _ _ _ _ _ _ r h => by simp [impl_ReadNumber.j4] at h, fun _ _ _ _ _ r h => by simp [impl_ReadNumber.j5] at h⟩
  | k + 1 => by
    obtain ⟨ih0, ih1, ih2, ih3, ih4, ih5, ih6⟩ := impl_ReadNumber.mono_l k
    refine ⟨?_, ?_, ?_, ?_, ?_, ?_, ?_⟩ <;> intros <;> (first | unfold impl_ReadNumber.j0 | unfold impl_ReadNumber.j1 | unfold impl_ReadNumber.j2 | unfold impl_ReadNumber.j6 | unfold impl_ReadNumber.j3 | unfold impl_ReadNumber.j4 | unfold impl_ReadNumber.j5) <;> with_reducible repeat' first
     | exact ih0 _ _ _ _ _
     | exact ih1 _ _ _ _
     | exact ih2 _ _ _ _ _
     | exact ih3 _ _ _ _
     | exact ih4 _ _ _ _ _
     | exact ih5 _ _ _ _ _ _
     | exact ih6 _ _ _ _ _
     | exact impl_digitRun.mono _ _ _
     | exact LeO.refl _
     | exact LeO.none _
     | refine LeO.ite ?_ ?_
     | refine LeO.bind ?_ (fun _ => ?_)
theorem impl_ReadNumber.mono : ∀ a0 k, LeO (impl_ReadNumber.f k a0) (impl_ReadNumber.f (k + 1) a0) := by
 intro a0 k
 obtain ⟨ih0, ih1, ih2, ih3, ih4, ih5, ih6⟩ := impl_ReadNumber.mono_l k
 unfold impl_ReadNumber.f
 with_reducible repeat' first
 | exact ih0 _ _ _ _ _
 | exact ih1 _ _ _ _
 | exact ih2 _ _ _ _ _
 | exact ih3 _ _ _ _
 | exact ih4 _ _ _ _ _
 | exact ih5 _ _ _ _ _ _
 | exact ih6 _ _ _ _ _
 | exact impl_digitRun.mono _ _ _
 | exact LeO.refl _
 | exact LeO.none _
 | refine LeO.ite ?_ ?_
 | refine LeO.bind ?_ (fun _ => ?_)
theorem impl_ReadNumber.calls (k : Nat) (a0 : ByteArray) (r1 : Int) (r2 : Bool) (w : World) (hm : G.Homey w) (h : impl_ReadNumber.f k a0 = some (r1, r2)) :
  Calls Tryz.prog 36 #[.string a0] w fun e w' => e = .returned (.tuple #[.int .u64 r1, .bool r2]) ∧ Below w.heap.size w w' := by
 have HB := Aside0.mk (Below.refl w.heap.size w)
 have H : ((impl_digitRun.f k a0 0).bind fun t232 => ((impl_within.f t232 1 30).bind fun t233 => (if t233 = true then (if 0 ≤ t232 then (if t232 ≤ (a0.size : Int) then (if t232 < (a0.size : Int) then (impl_ReadNumber.j0 k a0 (a0.extract 0 (t232 : Int).toNat) t232 0 ((bt a0 t232) == 46)) else (impl_ReadNumber.j0 k a0 (a0.extract 0 (t232 : Int).toNat) t232 0 false)) else (none)) else (none)) else (some (0, false))))) = some (r1, r2) := h
 clear h
 replace H := zM H
 obtain ⟨t232, A20, H⟩ := H
 try dsimp only at H
 have A2 := Aside0.mk A20
 clear A20
 replace H := zM H
 obtain ⟨t233, A30, H⟩ := H
 try dsimp only at H
 have A3 := Aside0.mk A30
 clear A30
 by_cases c4 : t233 = true
 ·subst c4
  have H1 := H
  rw [if_pos rfl] at H1
  clear H
  have H := H1
  clear H1
  by_cases c5 : 0 ≤ t232
  ·rw [if_pos c5] at H
   have c5b0 := eq_true c5
   have c5b1 := decide_eq_true c5
   clear c5
   by_cases c6 : t232 ≤ (a0.size : Int)
   ·rw [if_pos c6] at H
    have c6b0 := eq_true c6
    have c6b1 := decide_eq_true c6
    clear c6
    have HC7 := Aside0.mk H
    clear H
    go_enter Tryz.func36, Tryz.ntmps36
    go_upto_region 5 with (first | ((with_reducible refine gate_callee (f := 70) rfl ?_); refine goesL_ (some 14) rfl rfl Tryz.func70 (by kernel_rfl) rfl #[.string a0, .int .i64 0] rfl zL ?_; (with_reducible refine (impl_digitRun.calls k a0 0 t232 _ A2.out).mono ?_); rintro e w' ⟨rfl, ⟨nd, rfl⟩⟩; refine ⟨_, rfl, ?_⟩) | ((with_reducible refine gate_callee (f := 44) rfl ?_); refine goesL_ (some 16) rfl rfl Tryz.func44 (by kernel_rfl) rfl #[.int .i64 t232, .int .i64 1, .int .i64 30] rfl zL ?_; (with_reducible refine (impl_within.calls t232 1 30 true _ A3.out).mono ?_); rintro e w' ⟨rfl, ⟨nd, rfl⟩⟩; refine ⟨_, rfl, ?_⟩))
    (try simp only [Act.put, List.setIfInBounds_toArray, List.set_cons_zero, List.set_cons_succ])
    go_cut [31] (fun v31 wc => ∃ (kq : Nat) (x31_6 : Bool), v31 = .bool x31_6 ∧ Aside0 (impl_ReadNumber.j0 kq a0 (a0.extract 0 (t232 : Int).toNat) t232 0 x31_6 = some (r1, r2)) ∧ Aside0 (kq ≤ k) ∧ Aside0 (Below w.heap.size w wc))
    case first =>
     have H := HC7.out
     clear HC7
     by_cases c8 : t232 < (a0.size : Int)
     ·rw [if_pos c8] at H
      have c8b0 := decide_eq_true c8
      clear c8
      (first | rw [c8b0] | (simp only [i64_w, i32_w]; rw [c8b0]) | skip)
      have H' := Aside0.mk H
      clear H
      have p9 : 0 ≤ (t232 : Int) := of_decide_eq_true zA
      have q9 : t232 < (a0.size : Int) := of_decide_eq_true zA
      have hx9 := bt_at a0 t232
      replace p9 := eq_true p9
      replace q9 := eq_true q9
      go_wp2
      go_meet
      case rel => exact ⟨_, (((bt a0 t232) == 46)), zE, H', ⟨by first | omega | exact Nat.le_refl _⟩, ⟨zB⟩⟩
     ·rw [if_neg c8] at H
      have c8b0 := decide_eq_false c8
      clear c8
      (first | rw [c8b0] | (simp only [i64_w, i32_w]; rw [c8b0]) | skip)
      have H' := Aside0.mk H
      clear H
      go_wp2
      go_meet
      case rel => exact ⟨_, (false), zE, H', ⟨by first | omega | exact Nat.le_refl _⟩, ⟨zB⟩⟩
    case rest =>
     clear HC7
     try clear hx9
     obtain ⟨kq, x31_6, rfl, HA, HJ6, HB⟩ := hcut
     cases kq with
     | zero => exact absurd HA.out (by simp [impl_ReadNumber.j0])
     | succ kj6 =>
      have H := HA.out
      clear HA
      simp only [impl_ReadNumber.j0] at H
      have HC10 := Aside0.mk H
      clear H
      go_upto_if 31 with (fail)
      go_cut [5, 6, 7] (fun v5 v6 v7 wc => ∃ (kq : Nat) (x5_9 : ByteArray) (x6_9 : Int) (x7_9 : Int), v5 = .string x5_9 ∧ v6 = .int .i64 x6_9 ∧ v7 = .int .i64 x7_9 ∧ Aside0 (impl_ReadNumber.j1 kq a0 x5_9 x6_9 x7_9 = some (r1, r2)) ∧ Aside0 (kq ≤ kj6) ∧ Aside0 (Below w.heap.size w wc))
      case first =>
       have H := HC10.out
       clear HC10
       by_cases c11 : x31_6 = true
       ·subst c11
        have H1 := H
        rw [if_pos rfl] at H1
        clear H
        have H := H1
        clear H1
        replace H := zM H
        obtain ⟨t234, A120, H⟩ := H
        try dsimp only at H
        have A12 := Aside0.mk A120
        clear A120
        replace H := zM H
        obtain ⟨t235, A130, H⟩ := H
        try dsimp only at H
        have A13 := Aside0.mk A130
        clear A130
        by_cases c14 : t235 = true
        ·subst c14
         have H1 := H
         rw [if_pos rfl] at H1
         clear H
         have H := H1
         clear H1
         obtain ⟨ji15, hji15⟩ : ∃ j_ : Int, (wrap64 (t232 + 1)) = j_ := ⟨_, rfl⟩
         first | rw [hji15] at H | simp only [hji15] at H
         (try rw [hji15] at A12)
         (try rw [hji15] at A13)
         have hji15w : (IntKind.i64.wrap (t232 + 1)) = ji15 := (i64_w _).trans hji15
         by_cases c16 : 0 ≤ (ji15)
         ·rw [if_pos c16] at H
          have c16b0 := eq_true c16
          have c16b1 := decide_eq_true c16
          clear c16
          by_cases c17 : (ji15) ≤ (wrap64 ((ji15) + t234))
          ·rw [if_pos c17] at H
           have c17b0 := eq_true c17
           have c17b1 := decide_eq_true c17
           by_cases c18 : (wrap64 ((ji15) + t234)) ≤ (a0.size : Int)
           ·rw [if_pos c18] at H
            have c18b0 := eq_true c18
            have c18b1 := decide_eq_true c18
            by_cases c19 : (a0.extract 0 (t232 : Int).toNat).size + (a0.extract ((ji15) : Int).toNat ((wrap64 ((ji15) + t234)) : Int).toNat).size ≤ 9223372036854775807
            ·rw [if_pos c19] at H
             have c19b0 := eq_true c19
             have c19b1 := decide_eq_true c19
             try have c19b2 : (9223372036854775807 < (a0.extract 0 (t232 : Int).toNat).size + (a0.extract ((ji15) : Int).toNat ((wrap64 ((ji15) + t234)) : Int).toNat).size) = False := eq_false (Nat.not_lt.2 c19)
             try (have c19x0 := c19b0; have c19x1 := c19b1; have c19x2 := c19b2; simp only [ByteArray.size_append, ByteArray.size_extract, Nat.min_self, Nat.sub_zero] at c19x0 c19x1 c19x2)
             try (have hmin : min (t232 : Int).toNat a0.size = (t232 : Int).toNat := (by have h1 := of_decide_eq_true (by assumption : decide (t232 ≤ (a0.size : Int)) = true); omega); have c19y0 := c19x0; have c19y1 := c19x1; have c19y2 := c19x2; simp only [hmin] at c19y0 c19y1 c19y2)
             try (have c19x0 := c19b0; have c19x1 := c19b1; have c19x2 := c19b2; simp only [ByteArray.size_append, ByteArray.size_extract, Nat.min_self, Nat.sub_zero] at c19x0 c19x1 c19x2)
             try (have hmin : min (t232 : Int).toNat a0.size = (t232 : Int).toNat := (by have h1 := of_decide_eq_true (by assumption : decide (t232 ≤ (a0.size : Int)) = true); omega); have c19y0 := c19x0; have c19y1 := c19x1; have c19y2 := c19x2; simp only [hmin] at c19y0 c19y1 c19y2)
             have H' := Aside0.mk H
             clear H
             go_wp2_with (first | ((with_reducible refine gate_callee (f := 70) rfl ?_); refine goesL_ (some 35) rfl rfl Tryz.func70 (by kernel_rfl) rfl #[.string a0, .int .i64 ji15] rfl (by (try simp only [List.map_toArray, List.map_cons, List.map_nil]); first | done | (simp only [hji15]; rfl) | rfl | (simp only [List.length_drop, List.length_take]; rfl)) ?_; (with_reducible refine (impl_digitRun.calls kj6 a0 ji15 t234 _ A12.out).mono ?_); rintro e w' ⟨rfl, ⟨nd, rfl⟩⟩; refine ⟨_, rfl, ?_⟩) | ((with_reducible refine gate_callee (f := 44) rfl ?_); refine goesL_ (some 37) rfl rfl Tryz.func44 (by kernel_rfl) rfl #[.int .i64 t234, .int .i64 1, .int .i64 30] rfl zL ?_; (with_reducible refine (impl_within.calls t234 1 30 true _ A13.out).mono ?_); rintro e w' ⟨rfl, ⟨nd, rfl⟩⟩; refine ⟨_, rfl, ?_⟩))
             go_meet
             case rel => exact ⟨_, ((a0.extract 0 (t232 : Int).toNat) ++ (a0.extract ((ji15) : Int).toNat ((wrap64 ((ji15) + t234)) : Int).toNat)), (wrap64 ((ji15) + t234)), (wrap64 (-t234)), (by first | rfl | (simp; done) | (simp only [← hji15] <;> (first | rfl | simp)) | (simp [*]; done)), (by first | rfl | (simp; done) | (simp only [← hji15] <;> (first | rfl | simp)) | (simp [*]; done)), zE, (by first | exact H' | (rw [hji15]; exact H')), ⟨by have := HJ6.out; first | omega | exact Nat.le_refl _⟩, ⟨zB⟩⟩
            ·rw [if_neg c19] at H
             exact absurd H (by simp)
           ·rw [if_neg c18] at H
            exact absurd H (by simp)
          ·rw [if_neg c17] at H
           exact absurd H (by simp)
         ·rw [if_neg c16] at H
          exact absurd H (by simp)
        ·replace c14 := Bool.eq_false_iff.mpr c14
         subst c14
         have H1 : (some (0, false)) = some (r1, r2) := by rw [if_neg (show ¬ (false = true) by decide)] at H; exact H
         clear H
         have H := H1
         clear H1
         simp only [Option.some.injEq, Prod.mk.injEq] at H
         obtain ⟨rfl, rfl⟩ := H
         go_wp2_with (first | ((with_reducible refine gate_callee (f := 70) rfl ?_); refine goesL_ (some 35) rfl rfl Tryz.func70 (by kernel_rfl) rfl #[.string a0, .int .i64 (wrap64 (t232 + 1))] rfl zL ?_; (with_reducible refine (impl_digitRun.calls kj6 a0 (wrap64 (t232 + 1)) t234 _ A12.out).mono ?_); rintro e w' ⟨rfl, ⟨nd, rfl⟩⟩; refine ⟨_, rfl, ?_⟩) | ((with_reducible refine gate_callee (f := 44) rfl ?_); refine goesL_ (some 37) rfl rfl Tryz.func44 (by kernel_rfl) rfl #[.int .i64 t234, .int .i64 1, .int .i64 30] rfl zL ?_; (with_reducible refine (impl_within.calls t234 1 30 false _ A13.out).mono ?_); rintro e w' ⟨rfl, ⟨nd, rfl⟩⟩; refine ⟨_, rfl, ?_⟩))
         go_ret2
         exact ⟨zF, zB⟩
       ·replace c11 := Bool.eq_false_iff.mpr c11
        subst c11
        have H1 := H
        rw [if_neg (show ¬ (false = true) by decide)] at H1
        clear H
        have H := H1
        clear H1
        have H' := Aside0.mk H
        clear H
        go_wp2
        go_meet
        case rel => exact ⟨_, ((a0.extract 0 (t232 : Int).toNat)), (t232), (0), zE, zE, zE, H', ⟨by have := HJ6.out; first | omega | exact Nat.le_refl _⟩, ⟨zB⟩⟩
      case rest =>
       clear HC10
       try clear hx9
       obtain ⟨kq, x5_9, x6_9, x7_9, rfl, rfl, rfl, HA, HJ9, HB⟩ := hcut
       cases kq with
       | zero => exact absurd HA.out (by simp [impl_ReadNumber.j1])
       | succ kj9 =>
        have H := HA.out
        clear HA
        simp only [impl_ReadNumber.j1] at H
        have HC20 := Aside0.mk H
        clear H
        go_upto_region 12 with (fail)
        go_cut [64] (fun v64 wc => ∃ (kq : Nat) (x64_19 : Bool), v64 = .bool x64_19 ∧ Aside0 (impl_ReadNumber.j2 kq a0 x5_9 x6_9 x7_9 x64_19 = some (r1, r2)) ∧ Aside0 (kq ≤ kj9) ∧ Aside0 (Below w.heap.size w wc))
        case first =>
         have H := HC20.out
         clear HC20
         by_cases c21 : x6_9 < (a0.size : Int)
         ·rw [if_pos c21] at H
          have c21b0 := decide_eq_true c21
          clear c21
          (first | rw [c21b0] | (simp only [i64_w, i32_w]; rw [c21b0]) | skip)
          by_cases c22 : 0 ≤ x6_9
          ·rw [if_pos c22] at H
           have c22b0 := decide_eq_true c22
           clear c22
           have H' := Aside0.mk H
           clear H
           have p23 : 0 ≤ (x6_9 : Int) := of_decide_eq_true zA
           have q23 : x6_9 < (a0.size : Int) := of_decide_eq_true zA
           have hx23 := bt_at a0 x6_9
           replace p23 := eq_true p23
           replace q23 := eq_true q23
           go_wp2
           go_meet
           case rel => exact ⟨_, (((bt a0 x6_9) == 101)), zE, H', ⟨by have := HJ6.out; have := HJ9.out; first | omega | exact Nat.le_refl _⟩, ⟨zB⟩⟩
          ·rw [if_neg c22] at H
           exact absurd H (by simp)
         ·rw [if_neg c21] at H
          have c21b0 := decide_eq_false c21
          clear c21
          (first | rw [c21b0] | (simp only [i64_w, i32_w]; rw [c21b0]) | skip)
          have H' := Aside0.mk H
          clear H
          go_wp2
          go_meet
          case rel => exact ⟨_, (false), zE, H', ⟨by have := HJ6.out; have := HJ9.out; first | omega | exact Nat.le_refl _⟩, ⟨zB⟩⟩
        case rest =>
         clear HC20
         try clear hx2
         try clear hx9
         try clear hx23
         obtain ⟨kq, x64_19, rfl, HA, HJ19, HB⟩ := hcut
         cases kq with
         | zero => exact absurd HA.out (by simp [impl_ReadNumber.j2])
         | succ kj19 =>
          have H := HA.out
          clear HA
          simp only [impl_ReadNumber.j2] at H
          have HC24 := Aside0.mk H
          clear H
          go_upto_if 64 with (fail)
          go_cut [6, 7] (fun v6 v7 wc => ∃ (kq : Nat) (x6_23 : Int) (x7_23 : Int), v6 = .int .i64 x6_23 ∧ v7 = .int .i64 x7_23 ∧ Aside0 (impl_ReadNumber.j6 kq a0 x5_9 x6_23 x7_23 = some (r1, r2)) ∧ Aside0 (kq ≤ kj19) ∧ Aside0 (Below w.heap.size w wc))
          case first =>
           have H := HC24.out
           clear HC24
           by_cases c25 : x64_19 = true
           ·subst c25
            have H1 := H
            rw [if_pos rfl] at H1
            clear H
            have H := H1
            clear H1
            have HC26 := Aside0.mk H
            clear H
            go_upto_region 14 with (fail)
            go_cut [9] (fun v9 wc => ∃ (kq : Nat) (x9_25 : Bool), v9 = .bool x9_25 ∧ Aside0 (impl_ReadNumber.j3 kq a0 x5_9 (wrap64 (x6_9 + 1)) x7_9 x9_25 = some (r1, r2)) ∧ Aside0 (kq ≤ kj19) ∧ Aside0 (Below w.heap.size w wc))
            case first =>
             have H := HC26.out
             clear HC26
             by_cases c27 : (wrap64 (x6_9 + 1)) < (a0.size : Int)
             ·rw [if_pos c27] at H
              have c27b0 := decide_eq_true c27
              clear c27
              (first | rw [c27b0] | (simp only [i64_w, i32_w]; rw [c27b0]) | skip)
              obtain ⟨ji28, hji28⟩ : ∃ j_ : Int, (wrap64 (x6_9 + 1)) = j_ := ⟨_, rfl⟩
              first | rw [hji28] at H | simp only [hji28] at H
              (try rw [hji28] at c27b0)
              have hji28w : (IntKind.i64.wrap (x6_9 + 1)) = ji28 := (i64_w _).trans hji28
              by_cases c29 : 0 ≤ (ji28)
              ·rw [if_pos c29] at H
               have c29b0 := decide_eq_true c29
               clear c29
               have H' := Aside0.mk H
               clear H
               have p30 : 0 ≤ ((ji28) : Int) := of_decide_eq_true zA
               have q30 : (ji28) < (a0.size : Int) := of_decide_eq_true zA
               have hx30 := bt_at a0 (ji28)
               replace p30 := eq_true p30
               replace q30 := eq_true q30
               go_wp2
               go_meet
               case rel => exact ⟨_, (((bt a0 (ji28)) == 45)), (by first | rfl | (simp; done) | (simp only [← hji28] <;> (first | rfl | simp)) | (simp [*]; done)), (by first | exact H' | (rw [hji28]; exact H')), ⟨by have := HJ6.out; have := HJ9.out; have := HJ19.out; first | omega | exact Nat.le_refl _⟩, ⟨zB⟩⟩
              ·rw [if_neg c29] at H
               exact absurd H (by simp)
             ·rw [if_neg c27] at H
              have c27b0 := decide_eq_false c27
              clear c27
              (first | rw [c27b0] | (simp only [i64_w, i32_w]; rw [c27b0]) | skip)
              have H' := Aside0.mk H
              clear H
              go_wp2
              go_meet
              case rel => exact ⟨_, (false), zE, H', ⟨by have := HJ6.out; have := HJ9.out; have := HJ19.out; first | omega | exact Nat.le_refl _⟩, ⟨zB⟩⟩
            case rest =>
             clear HC26
             try clear hx2
             try clear hx3
             try clear hx9
             try clear hx23
             try clear hx30
             obtain ⟨kq, x9_25, rfl, HA, HJ25, HB⟩ := hcut
             cases kq with
             | zero => exact absurd HA.out (by simp [impl_ReadNumber.j3])
             | succ kj25 =>
              have H := HA.out
              clear HA
              simp only [impl_ReadNumber.j3] at H
              have HC31 := Aside0.mk H
              clear H
              go_upto_region 15 with (fail)
              go_cut [89] (fun v89 wc => ∃ (kq : Nat) (x89_30 : Bool), v89 = .bool x89_30 ∧ Aside0 (impl_ReadNumber.j4 kq a0 x5_9 (wrap64 (x6_9 + 1)) x7_9 x9_25 x89_30 = some (r1, r2)) ∧ Aside0 (kq ≤ kj25) ∧ Aside0 (Below w.heap.size w wc))
              case first =>
               have H := HC31.out
               clear HC31
               by_cases c32 : x9_25 = true
               ·subst c32
                have H1 := H
                rw [if_pos rfl] at H1
                clear H
                have H := H1
                clear H1
                have H' := Aside0.mk H
                clear H
                go_wp2
                go_meet
                case rel => exact ⟨_, (true), zE, H', ⟨by have := HJ6.out; have := HJ9.out; have := HJ19.out; have := HJ25.out; first | omega | exact Nat.le_refl _⟩, ⟨zB⟩⟩
               ·replace c32 := Bool.eq_false_iff.mpr c32
                subst c32
                have H1 := H
                rw [if_neg (show ¬ (false = true) by decide)] at H1
                clear H
                have H := H1
                clear H1
                by_cases c33 : (wrap64 (x6_9 + 1)) < (a0.size : Int)
                ·rw [if_pos c33] at H
                 have c33b0 := decide_eq_true c33
                 clear c33
                 (first | rw [c33b0] | (simp only [i64_w, i32_w]; rw [c33b0]) | skip)
                 obtain ⟨ji34, hji34⟩ : ∃ j_ : Int, (wrap64 (x6_9 + 1)) = j_ := ⟨_, rfl⟩
                 first | rw [hji34] at H | simp only [hji34] at H
                 (try rw [hji34] at c33b0)
                 have hji34w : (IntKind.i64.wrap (x6_9 + 1)) = ji34 := (i64_w _).trans hji34
                 by_cases c35 : 0 ≤ (ji34)
                 ·rw [if_pos c35] at H
                  have c35b0 := decide_eq_true c35
                  clear c35
                  have H' := Aside0.mk H
                  clear H
                  have p36 : 0 ≤ ((ji34) : Int) := of_decide_eq_true zA
                  have q36 : (ji34) < (a0.size : Int) := of_decide_eq_true zA
                  have hx36 := bt_at a0 (ji34)
                  replace p36 := eq_true p36
                  replace q36 := eq_true q36
                  go_wp2
                  go_meet
                  case rel => exact ⟨_, (((bt a0 (ji34)) == 43)), (by first | rfl | (simp; done) | (simp only [← hji34] <;> (first | rfl | simp)) | (simp [*]; done)), (by first | exact H' | (rw [hji34]; exact H')), ⟨by have := HJ6.out; have := HJ9.out; have := HJ19.out; have := HJ25.out; first | omega | exact Nat.le_refl _⟩, ⟨zB⟩⟩
                 ·rw [if_neg c35] at H
                  exact absurd H (by simp)
                ·rw [if_neg c33] at H
                 have c33b0 := decide_eq_false c33
                 clear c33
                 (first | rw [c33b0] | (simp only [i64_w, i32_w]; rw [c33b0]) | skip)
                 have H' := Aside0.mk H
                 clear H
                 go_wp2
                 go_meet
                 case rel => exact ⟨_, (false), zE, H', ⟨by have := HJ6.out; have := HJ9.out; have := HJ19.out; have := HJ25.out; first | omega | exact Nat.le_refl _⟩, ⟨zB⟩⟩
              case rest =>
               clear HC31
               try clear hx2
               try clear hx3
               try clear hx9
               try clear hx23
               try clear hx30
               try clear hx36
               obtain ⟨kq, x89_30, rfl, HA, HJ30, HB⟩ := hcut
               cases kq with
               | zero => exact absurd HA.out (by simp [impl_ReadNumber.j4])
               | succ kj30 =>
                have H := HA.out
                clear HA
                simp only [impl_ReadNumber.j4] at H
                have HC37 := Aside0.mk H
                clear H
                go_upto_if 89 with (fail)
                go_cut [6] (fun v6 wc => ∃ (kq : Nat) (x6_36 : Int), v6 = .int .i64 x6_36 ∧ Aside0 (impl_ReadNumber.j5 kq a0 x5_9 x6_36 x7_9 x9_25 = some (r1, r2)) ∧ Aside0 (kq ≤ kj30) ∧ Aside0 (Below w.heap.size w wc))
                case first =>
                 have H := HC37.out
                 clear HC37
                 by_cases c38 : x89_30 = true
                 ·subst c38
                  have H1 := H
                  rw [if_pos rfl] at H1
                  clear H
                  have H := H1
                  clear H1
                  have H' := Aside0.mk H
                  clear H
                  go_wp2
                  go_meet
                  case rel => exact ⟨_, (wrap64 ((wrap64 (x6_9 + 1)) + 1)), zE, H', ⟨by have := HJ6.out; have := HJ9.out; have := HJ19.out; have := HJ25.out; have := HJ30.out; first | omega | exact Nat.le_refl _⟩, ⟨zB⟩⟩
                 ·replace c38 := Bool.eq_false_iff.mpr c38
                  subst c38
                  have H1 := H
                  rw [if_neg (show ¬ (false = true) by decide)] at H1
                  clear H
                  have H := H1
                  clear H1
                  have H' := Aside0.mk H
                  clear H
                  go_wp2
                  go_meet
                  case rel => exact ⟨_, ((wrap64 (x6_9 + 1))), zE, H', ⟨by have := HJ6.out; have := HJ9.out; have := HJ19.out; have := HJ25.out; have := HJ30.out; first | omega | exact Nat.le_refl _⟩, ⟨zB⟩⟩
                case rest =>
                 clear HC37
                 try clear hx2
                 try clear hx3
                 try clear hx9
                 try clear hx23
                 try clear hx30
                 try clear hx36
                 obtain ⟨kq, x6_36, rfl, HA, HJ36, HB⟩ := hcut
                 cases kq with
                 | zero => exact absurd HA.out (by simp [impl_ReadNumber.j5])
                 | succ kj36 =>
                  have H := HA.out
                  clear HA
                  simp only [impl_ReadNumber.j5] at H
                  replace H := zM H
                  obtain ⟨t236, A390, H⟩ := H
                  try dsimp only at H
                  have A39 := Aside0.mk A390
                  clear A390
                  replace H := zM H
                  obtain ⟨t237, A400, H⟩ := H
                  try dsimp only at H
                  have A40 := Aside0.mk A400
                  clear A400
                  by_cases c41 : t237 = true
                  ·subst c41
                   have H1 := H
                   rw [if_pos rfl] at H1
                   clear H
                   have H := H1
                   clear H1
                   by_cases c42 : 0 ≤ x6_36
                   ·rw [if_pos c42] at H
                    have c42b0 := eq_true c42
                    have c42b1 := decide_eq_true c42
                    clear c42
                    by_cases c43 : x6_36 ≤ (wrap64 (x6_36 + t236))
                    ·rw [if_pos c43] at H
                     have c43b0 := eq_true c43
                     have c43b1 := decide_eq_true c43
                     by_cases c44 : (wrap64 (x6_36 + t236)) ≤ (a0.size : Int)
                     ·rw [if_pos c44] at H
                      have c44b0 := eq_true c44
                      have c44b1 := decide_eq_true c44
                      replace H := zM H
                      obtain ⟨⟨t238, t239⟩, A450, H⟩ := H
                      try dsimp only at H
                      have A45 := Aside0.mk A450
                      clear A450
                      by_cases c46 : x9_25 = true
                      ·subst c46
                       have H1 := H
                       rw [if_pos rfl] at H1
                       clear H
                       have H := H1
                       clear H1
                       have H' := Aside0.mk H
                       clear H
                       go_wp2_with (first | ((with_reducible refine gate_callee (f := 70) rfl ?_); refine goesL_ (some 94) rfl rfl Tryz.func70 (by kernel_rfl) rfl #[.string a0, .int .i64 x6_36] rfl zL ?_; (with_reducible refine (impl_digitRun.calls kj36 a0 x6_36 t236 _ A39.out).mono ?_); rintro e w' ⟨rfl, ⟨nd, rfl⟩⟩; refine ⟨_, rfl, ?_⟩) | ((with_reducible refine gate_callee (f := 44) rfl ?_); refine goesL_ (some 96) rfl rfl Tryz.func44 (by kernel_rfl) rfl #[.int .i64 t236, .int .i64 1, .int .i64 3] rfl zL ?_; (with_reducible refine (impl_within.calls t236 1 3 true _ A40.out).mono ?_); rintro e w' ⟨rfl, ⟨nd, rfl⟩⟩; refine ⟨_, rfl, ?_⟩) | ((with_reducible refine gate_callee (f := 71) rfl ?_); refine goesL_ (some 105) rfl rfl Tryz.func71 (by kernel_rfl) rfl #[.string (a0.extract (x6_36 : Int).toNat ((wrap64 (x6_36 + t236)) : Int).toNat)] rfl zL ?_; (with_reducible refine (strconv_Atoi.calls (a0.extract (x6_36 : Int).toNat ((wrap64 (x6_36 + t236)) : Int).toNat) t238 t239 _ A45.out).mono ?_); rintro e w47 ⟨rfl, hb⟩; refine ⟨_, rfl, ?_⟩; replace HB := Aside0.mk (below_step zB hb); (try clear hb); (try simp only [errW_none, errW_some])))
                       go_meet
                       case rel => exact ⟨_, (wrap64 (x6_36 + t236)), (wrap64 (x7_9 + (wrap64 (-t238)))), zE, zE, H', ⟨by have := HJ6.out; have := HJ9.out; have := HJ19.out; have := HJ25.out; have := HJ30.out; have := HJ36.out; first | omega | exact Nat.le_refl _⟩, ⟨zB⟩⟩
                      ·replace c46 := Bool.eq_false_iff.mpr c46
                       subst c46
                       have H1 := H
                       rw [if_neg (show ¬ (false = true) by decide)] at H1
                       clear H
                       have H := H1
                       clear H1
                       have H' := Aside0.mk H
                       clear H
                       go_wp2_with (first | ((with_reducible refine gate_callee (f := 70) rfl ?_); refine goesL_ (some 94) rfl rfl Tryz.func70 (by kernel_rfl) rfl #[.string a0, .int .i64 x6_36] rfl zL ?_; (with_reducible refine (impl_digitRun.calls kj36 a0 x6_36 t236 _ A39.out).mono ?_); rintro e w' ⟨rfl, ⟨nd, rfl⟩⟩; refine ⟨_, rfl, ?_⟩) | ((with_reducible refine gate_callee (f := 44) rfl ?_); refine goesL_ (some 96) rfl rfl Tryz.func44 (by kernel_rfl) rfl #[.int .i64 t236, .int .i64 1, .int .i64 3] rfl zL ?_; (with_reducible refine (impl_within.calls t236 1 3 true _ A40.out).mono ?_); rintro e w' ⟨rfl, ⟨nd, rfl⟩⟩; refine ⟨_, rfl, ?_⟩) | ((with_reducible refine gate_callee (f := 71) rfl ?_); refine goesL_ (some 105) rfl rfl Tryz.func71 (by kernel_rfl) rfl #[.string (a0.extract (x6_36 : Int).toNat ((wrap64 (x6_36 + t236)) : Int).toNat)] rfl zL ?_; (with_reducible refine (strconv_Atoi.calls (a0.extract (x6_36 : Int).toNat ((wrap64 (x6_36 + t236)) : Int).toNat) t238 t239 _ A45.out).mono ?_); rintro e w48 ⟨rfl, hb⟩; refine ⟨_, rfl, ?_⟩; replace HB := Aside0.mk (below_step zB hb); (try clear hb); (try simp only [errW_none, errW_some])))
                       go_meet
                       case rel => exact ⟨_, (wrap64 (x6_36 + t236)), (wrap64 (x7_9 + t238)), zE, zE, H', ⟨by have := HJ6.out; have := HJ9.out; have := HJ19.out; have := HJ25.out; have := HJ30.out; have := HJ36.out; first | omega | exact Nat.le_refl _⟩, ⟨zB⟩⟩
                     ·rw [if_neg c44] at H
                      exact absurd H (by simp)
                    ·rw [if_neg c43] at H
                     exact absurd H (by simp)
                   ·rw [if_neg c42] at H
                    exact absurd H (by simp)
                  ·replace c41 := Bool.eq_false_iff.mpr c41
                   subst c41
                   have H1 : (some (0, false)) = some (r1, r2) := by rw [if_neg (show ¬ (false = true) by decide)] at H; exact H
                   clear H
                   have H := H1
                   clear H1
                   simp only [Option.some.injEq, Prod.mk.injEq] at H
                   obtain ⟨rfl, rfl⟩ := H
                   go_wp2_with (first | ((with_reducible refine gate_callee (f := 70) rfl ?_); refine goesL_ (some 94) rfl rfl Tryz.func70 (by kernel_rfl) rfl #[.string a0, .int .i64 x6_36] rfl zL ?_; (with_reducible refine (impl_digitRun.calls kj36 a0 x6_36 t236 _ A39.out).mono ?_); rintro e w' ⟨rfl, ⟨nd, rfl⟩⟩; refine ⟨_, rfl, ?_⟩) | ((with_reducible refine gate_callee (f := 44) rfl ?_); refine goesL_ (some 96) rfl rfl Tryz.func44 (by kernel_rfl) rfl #[.int .i64 t236, .int .i64 1, .int .i64 3] rfl zL ?_; (with_reducible refine (impl_within.calls t236 1 3 false _ A40.out).mono ?_); rintro e w' ⟨rfl, ⟨nd, rfl⟩⟩; refine ⟨_, rfl, ?_⟩))
                   go_ret2
                   exact ⟨zF, zB⟩
           ·replace c25 := Bool.eq_false_iff.mpr c25
            subst c25
            have H1 := H
            rw [if_neg (show ¬ (false = true) by decide)] at H1
            clear H
            have H := H1
            clear H1
            have H' := Aside0.mk H
            clear H
            go_wp2
            go_meet
            case rel => exact ⟨_, (x6_9), (x7_9), zE, zE, H', ⟨by have := HJ6.out; have := HJ9.out; have := HJ19.out; first | omega | exact Nat.le_refl _⟩, ⟨zB⟩⟩
          case rest =>
           clear HC24
           try clear hx2
           try clear hx3
           try clear hx9
           try clear hx23
           try clear hx30
           try clear hx36
           obtain ⟨kq, x6_23, x7_23, rfl, rfl, HA, HJ23, HB⟩ := hcut
           cases kq with
           | zero => exact absurd HA.out (by simp [impl_ReadNumber.j6])
           | succ kj23 =>
            have H := HA.out
            clear HA
            simp only [impl_ReadNumber.j6] at H
            by_cases c49 : x6_23 = (a0.size : Int)
            ·rw [if_pos c49] at H
             have c49b0 : (x6_23 == (a0.size : Int)) = true := beq_iff_eq.mpr c49
             have c49b1 : (x6_23 != (a0.size : Int)) = false := bne_eq_false_iff_eq.mpr c49
             clear c49
             replace H := zM H
             obtain ⟨t240, A500, H⟩ := H
             try dsimp only at H
             have A50 := Aside0.mk A500
             clear A500
             by_cases c51 : t240.toList = ([] : List UInt8)
             ·rw [if_pos c51] at H
              have c51b0 : (t240.toList == ([] : List UInt8)) = true := beq_iff_eq.mpr c51
              have c51b1 : (t240.toList != ([] : List UInt8)) = false := bne_eq_false_iff_eq.mpr c51
              clear c51
              replace H := zM H
              obtain ⟨t241, A520, H⟩ := H
              replace H : (some (t241, true)) = some (r1, r2) := H
              have A52 := Aside0.mk A520
              clear A520
              simp only [Option.some.injEq, Prod.mk.injEq] at H
              obtain ⟨rfl, rfl⟩ := H
              go_wp2_with (first | ((with_reducible refine gate_callee (f := 72) rfl ?_); refine goesL_ (some 122) rfl rfl Tryz.func72 (by kernel_rfl) rfl #[.string x5_9, .string (⟨#[48]⟩ : ByteArray)] rfl zL ?_; (with_reducible refine (strings_TrimLeft.calls x5_9 (⟨#[48]⟩ : ByteArray) t240 _ A50.out).mono ?_); rintro e w53 ⟨rfl, hb⟩; refine ⟨_, rfl, ?_⟩; replace HB := Aside0.mk (below_step zB hb); (try clear hb)) | ((with_reducible refine gate_callee (f := 15) rfl ?_); refine goesL_ (some 127) rfl rfl Tryz.func15 (by kernel_rfl) rfl #[.string (⟨#[48]⟩ : ByteArray), .int .i64 x7_23] rfl zL ?_; (with_reducible refine (impl_Nearest.calls (⟨#[48]⟩ : ByteArray) x7_23 t241 _ (hm.below zC) A52.out).mono ?_); rintro e w54 ⟨rfl, hb⟩; refine ⟨_, rfl, ?_⟩; replace HB := Aside0.mk (below_step zB hb); (try clear hb)))
              go_ret2
              exact ⟨zF, zB⟩
             ·rw [if_neg c51] at H
              have c51b0 : (t240.toList == ([] : List UInt8)) = false := beq_eq_false_iff_ne.mpr c51
              have c51b1 : (t240.toList != ([] : List UInt8)) = true := bne_iff_ne.mpr c51
              replace H := zM H
              obtain ⟨t242, A550, H⟩ := H
              replace H : (some (t242, true)) = some (r1, r2) := H
              have A55 := Aside0.mk A550
              clear A550
              simp only [Option.some.injEq, Prod.mk.injEq] at H
              obtain ⟨rfl, rfl⟩ := H
              go_wp2_with (first | ((with_reducible refine gate_callee (f := 72) rfl ?_); refine goesL_ (some 122) rfl rfl Tryz.func72 (by kernel_rfl) rfl #[.string x5_9, .string (⟨#[48]⟩ : ByteArray)] rfl zL ?_; (with_reducible refine (strings_TrimLeft.calls x5_9 (⟨#[48]⟩ : ByteArray) t240 _ A50.out).mono ?_); rintro e w56 ⟨rfl, hb⟩; refine ⟨_, rfl, ?_⟩; replace HB := Aside0.mk (below_step zB hb); (try clear hb)) | ((with_reducible refine gate_callee (f := 15) rfl ?_); refine goesL_ (some 127) rfl rfl Tryz.func15 (by kernel_rfl) rfl #[.string t240, .int .i64 x7_23] rfl zL ?_; (with_reducible refine (impl_Nearest.calls t240 x7_23 t242 _ (hm.below zC) A55.out).mono ?_); rintro e w57 ⟨rfl, hb⟩; refine ⟨_, rfl, ?_⟩; replace HB := Aside0.mk (below_step zB hb); (try clear hb)))
              go_ret2
              exact ⟨zF, zB⟩
            ·rw [if_neg c49] at H
             have c49b0 : (x6_23 == (a0.size : Int)) = false := beq_eq_false_iff_ne.mpr c49
             have c49b1 : (x6_23 != (a0.size : Int)) = true := bne_iff_ne.mpr c49
             simp only [Option.some.injEq, Prod.mk.injEq] at H
             obtain ⟨rfl, rfl⟩ := H
             go_wp2
             go_ret2
             exact ⟨zF, zB⟩
   ·rw [if_neg c6] at H
    exact absurd H (by simp)
  ·rw [if_neg c5] at H
   exact absurd H (by simp)
 ·replace c4 := Bool.eq_false_iff.mpr c4
  subst c4
  have H1 : (some (0, false)) = some (r1, r2) := by rw [if_neg (show ¬ (false = true) by decide)] at H; exact H
  clear H
  have H := H1
  clear H1
  simp only [Option.some.injEq, Prod.mk.injEq] at H
  obtain ⟨rfl, rfl⟩ := H
  go_enter Tryz.func36, Tryz.ntmps36
  go_wp2_with (first | ((with_reducible refine gate_callee (f := 70) rfl ?_); refine goesL_ (some 14) rfl rfl Tryz.func70 (by kernel_rfl) rfl #[.string a0, .int .i64 0] rfl zL ?_; (with_reducible refine (impl_digitRun.calls k a0 0 t232 _ A2.out).mono ?_); rintro e w' ⟨rfl, ⟨nd, rfl⟩⟩; refine ⟨_, rfl, ?_⟩) | ((with_reducible refine gate_callee (f := 44) rfl ?_); refine goesL_ (some 16) rfl rfl Tryz.func44 (by kernel_rfl) rfl #[.int .i64 t232, .int .i64 1, .int .i64 30] rfl zL ?_; (with_reducible refine (impl_within.calls t232 1 30 false _ A3.out).mono ?_); rintro e w' ⟨rfl, ⟨nd, rfl⟩⟩; refine ⟨_, rfl, ?_⟩))
  go_ret2
  exact ⟨zF, zB⟩

end
end Go.Proofs.YtkjpelgdppmbjaaGreatDoor.MFnShows
