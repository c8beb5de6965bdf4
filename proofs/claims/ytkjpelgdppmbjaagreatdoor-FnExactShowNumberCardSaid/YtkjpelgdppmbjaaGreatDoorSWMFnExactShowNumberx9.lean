-- by this session's own program mp.py over the kit's printer
import Derived.Test.YtkjpelgdppmbjaaGreatDoorSWZip
import Derived.Test.YtkjpelgdppmbjaaGreatDoorSWMFnExactShowNumberx0
import Derived.Test.YtkjpelgdppmbjaaGreatDoorSWMFnExactShowNumberx1
import Derived.Test.YtkjpelgdppmbjaaGreatDoorSWMFnExactShowNumberx3
import Derived.Test.YtkjpelgdppmbjaaGreatDoorSWMFnExactShowNumberx7
import Derived.Test.YtkjpelgdppmbjaaGreatDoorSWMFnExactShowNumberx8
namespace Go.Proofs.YtkjpelgdppmbjaaGreatDoor.MFnExactShowNumber
open Go.RowKit YtkjpelgdppmbjaaGreatDoorW.PrintWords YtkjpelgdppmbjaaGreatDoorW.PrintLast YtkjpelgdppmbjaaGreatDoorW.PrintMore
set_option maxHeartbeats 8000000
set_option maxRecDepth 100000
attribute [local go_sem] max2_int min2_int max_two min_two max_three min_three max_four min_four
set_option linter.unusedVariables false
set_option linter.unusedSimpArgs false

mutual
def spec_Shortest.l0 : Nat → ByteArray → Int → Int → Int → Option (ByteArray × Int)
 | 0, _, _, _, _ => none
 | k + 1, x4, x5, x6, x7 => if x7 ≤ 17 then (spec_Shortest.j1 k x4 x5 x6 x7 (decide (x7 < (x4.size : Int)))) else (spec_Shortest.j1 k x4 x5 x6 x7 false)
def spec_Shortest.j1 : Nat → ByteArray → Int → Int → Int → Bool → Option (ByteArray × Int)
 | 0, _, _, _, _, _ => none
 | k + 1, x4, x5, x6, x7, x35 => if x35 = true then (if 0 ≤ x7 then (if x7 ≤ (x4.size : Int) then ((spec_GreatAdd.f k (x4.extract 0 (x7 : Int).toNat) (⟨#[49]⟩ : ByteArray)).bind fun bt316 => ((spec_l01Long.f k (wrap64 (((x4.extract (x7 : Int).toNat x4.size).size : Int) - 1)) 48).bind fun t318 => (if 1 + t318.size ≤ 9223372036854775807 then ((spec_Nearest.f k (x4.extract 0 (x7 : Int).toNat) (wrap64 ((wrap64 (x5 + (x4.size : Int))) - x7))).bind fun t319 => ((spec_Nearest.f k bt316.1 (wrap64 ((wrap64 (x5 + (x4.size : Int))) - x7))).bind fun t320 => (if t319 = x6 then (spec_Shortest.j2 k x4 x5 x6 x7 (x4.extract 0 (x7 : Int).toNat) (wrap64 ((wrap64 (x5 + (x4.size : Int))) - x7)) bt316.1 (x4.extract (x7 : Int).toNat x4.size) ((⟨#[53]⟩ : ByteArray) ++ t318) (t319 == x6) (t320 == x6) false) else (spec_Shortest.j2 k x4 x5 x6 x7 (x4.extract 0 (x7 : Int).toNat) (wrap64 ((wrap64 (x5 + (x4.size : Int))) - x7)) bt316.1 (x4.extract (x7 : Int).toNat x4.size) ((⟨#[53]⟩ : ByteArray) ++ t318) (t319 == x6) (t320 == x6) (!(t320 == x6)))))) else (none)))) else (none)) else (none)) else (some (x4, x5))
def spec_Shortest.j2 : Nat → ByteArray → Int → Int → Int → ByteArray → Int → ByteArray → ByteArray → ByteArray → Bool → Bool → Bool → Option (ByteArray × Int)
 | 0, _, _, _, _, _, _, _, _, _, _, _, _ => none
 | k + 1, x4, x5, x6, x7, x8, x9, x10, x12, x13, x14, x15, x75 => if x75 = true then (spec_Shortest.l0 k x4 x5 x6 (wrap64 (x7 + 1))) else (if 0 ≤ (wrap64 (x7 - 1)) then (if (wrap64 (x7 - 1)) < (x8.size : Int) then (if x14 = true then (if x15 = true then (if (Op.bytesLess x13.toList x12.toList) = true then ((spec_l07Ahead.f k x10 x9).bind fun bt321 => (some (bt321.1, bt321.2))) else (if x12.toList = x13.toList then (if (((((bt x8 (wrap64 (x7 - 1))) - 48) % 256) % 2) = 0) then ((spec_l07Ahead.f k x8 x9).bind fun bt323 => (some (bt323.1, bt323.2))) else ((spec_l07Ahead.f k x10 x9).bind fun bt325 => (some (bt325.1, bt325.2)))) else ((spec_l07Ahead.f k x8 x9).bind fun bt327 => (some (bt327.1, bt327.2))))) else ((spec_l07Ahead.f k x8 x9).bind fun bt329 => (some (bt329.1, bt329.2)))) else ((spec_l07Ahead.f k x10 x9).bind fun bt331 => (some (bt331.1, bt331.2)))) else (none)) else (none))
end
def spec_Shortest.f (k : Nat) (a0 : Int) : Option (ByteArray × Int) := (spec_Exact.f k a0).bind fun bt313 => (if bt313.1.toList = ([] : List UInt8) then (some ((⟨#[]⟩ : ByteArray), 0)) else ((spec_l03Pow.f k 63).bind fun t315 => (if t315 = 0 then (none) else (spec_Shortest.l0 k bt313.1 bt313.2 (Int.tmod a0 t315) 1))))
theorem spec_Shortest.mono_l : ∀ k, (∀ y0 y1 y2 y3, LeO (spec_Shortest.l0 k y0 y1 y2 y3) (spec_Shortest.l0 (k + 1) y0 y1 y2 y3)) ∧ (∀ y0 y1 y2 y3 y4, LeO (spec_Shortest.j1 k y0 y1 y2 y3 y4) (spec_Shortest.j1 (k + 1) y0 y1 y2 y3 y4)) ∧ (∀ y0 y1 y2 y3 y4 y5 y6 y7 y8 y9 y10 y11, LeO (spec_Shortest.j2 k y0 y1 y2 y3 y4 y5 y6 y7 y8 y9 y10 y11) (spec_Shortest.j2 (k + 1) y0 y1 y2 y3 y4 y5 y6 y7 y8 y9 y10 y11))
  | 0 => ⟨fun _ _ _ _ r h => by simp [spec_Shortest.l0] at h, fun _ _ _ _ _ r h => by simp [spec_Shortest.j1] at h, fun _ _ _ _ _ _ _ _ _ _ _ _ r h => by simp [spec_Shortest.j2] at h⟩
  | k + 1 => by
    obtain ⟨ih0, ih1, ih2⟩ := spec_Shortest.mono_l k
    refine ⟨?_, ?_, ?_⟩ <;> intros <;> (first | unfold spec_Shortest.l0 | unfold spec_Shortest.j1 | unfold spec_Shortest.j2) <;> with_reducible repeat' first
     | exact ih0 _ _ _ _
     | exact ih1 _ _ _ _ _
     | exact ih2 _ _ _ _ _ _ _ _ _ _ _ _
     | exact spec_Exact.mono _ _
     | exact spec_GreatAdd.mono _ _ _
     | exact spec_Nearest.mono _ _ _
     | exact spec_l01Long.mono _ _ _
     | exact spec_l03Pow.mono _ _
     | exact spec_l07Ahead.mono _ _ _
     | exact LeO.refl _
     | exact LeO.none _
     | refine LeO.ite ?_ ?_
     | refine LeO.bind ?_ (fun _ => ?_)
theorem spec_Shortest.mono : ∀ a0 k, LeO (spec_Shortest.f k a0) (spec_Shortest.f (k + 1) a0) := by
 intro a0 k
 obtain ⟨ih0, ih1, ih2⟩ := spec_Shortest.mono_l k
 unfold spec_Shortest.f
 with_reducible repeat' first
 | exact ih0 _ _ _ _
 | exact ih1 _ _ _ _ _
 | exact ih2 _ _ _ _ _ _ _ _ _ _ _ _
 | exact spec_Exact.mono _ _
 | exact spec_GreatAdd.mono _ _ _
 | exact spec_Nearest.mono _ _ _
 | exact spec_l01Long.mono _ _ _
 | exact spec_l03Pow.mono _ _
 | exact spec_l07Ahead.mono _ _ _
 | exact LeO.refl _
 | exact LeO.none _
 | refine LeO.ite ?_ ?_
 | refine LeO.bind ?_ (fun _ => ?_)
theorem bytesLess_swap : ∀ a b : List UInt8, (Op.bytesLess a b || a == b) = !(Op.bytesLess b a)
  | [], [] => rfl
  | [], _ :: _ => rfl
  | _ :: _, [] => rfl
  | x :: a, y :: b => by
    have ih := bytesLess_swap a b
    unfold Op.bytesLess
    by_cases h : x = y
    · subst h
      have : ¬ x < x := UInt8.lt_irrefl x
      simp [this, ih]
    · have h2 : ¬ y = x := fun e => h e.symm
      rcases UInt8.lt_or_lt_of_ne h with h3 | h3
      · have h4 : ¬ y < x := UInt8.lt_asymm h3
        simp [h2, h3, h4]
      · have h4 : ¬ x < y := UInt8.lt_asymm h3
        simp [h, h3, h4]
theorem binOp_gtr_swap (t : TypeId) (a b : ByteArray) : binOp .gtr t (.string a) (.string b) = pure (.bool (Op.bytesLess b.toList a.toList)) := by
 rw [binOp_string_gtr, bytesLess_swap, Bool.not_not]
attribute [-go_sem] binOp_string_gtr
attribute [local go_sem] binOp_gtr_swap
theorem spec_Shortest.calls (k : Nat) (a0 : Int) (r1 : ByteArray) (r2 : Int) (w : World) (h : spec_Shortest.f k a0 = some (r1, r2)) :
  Calls Tryz.prog 25 #[.int .u64 a0] w fun e w' => e = .returned (.tuple #[.string r1, .int .i64 r2]) ∧ Below w.heap.size w w' := by
 have HB := Aside0.mk (Below.refl w.heap.size w)
 have H : ((spec_Exact.f k a0).bind fun bt313 => (if bt313.1.toList = ([] : List UInt8) then (some ((⟨#[]⟩ : ByteArray), 0)) else ((spec_l03Pow.f k 63).bind fun t315 => (if t315 = 0 then (none) else (spec_Shortest.l0 k bt313.1 bt313.2 (Int.tmod a0 t315) 1))))) = some (r1, r2) := h
 clear h
 replace H := zM H
 obtain ⟨⟨t313, t314⟩, A20, H⟩ := H
 try dsimp only at H
 have A2 := Aside0.mk A20
 clear A20
 by_cases c3 : t313.toList = ([] : List UInt8)
 ·rw [if_pos c3] at H
  have c3b0 : (t313.toList == ([] : List UInt8)) = true := beq_iff_eq.mpr c3
  have c3b1 : (t313.toList != ([] : List UInt8)) = false := bne_eq_false_iff_eq.mpr c3
  clear c3
  simp only [Option.some.injEq, Prod.mk.injEq] at H
  obtain ⟨rfl, rfl⟩ := H
  go_enter Tryz.func25, Tryz.ntmps25
  go_wp2_with (first | ((with_reducible refine gate_callee (f := 14) rfl ?_); refine goesL_ (some 20) rfl rfl Tryz.func14 (by kernel_rfl) rfl #[.int .u64 a0] rfl zL ?_; (with_reducible refine (spec_Exact.calls k a0 t313 t314 _ A2.out).mono ?_); rintro e w4 ⟨rfl, hb⟩; refine ⟨_, rfl, ?_⟩; replace HB := Aside0.mk (below_step zB hb); (try clear hb)))
  go_ret2
  exact ⟨zF, zB⟩
 ·rw [if_neg c3] at H
  have c3b0 : (t313.toList == ([] : List UInt8)) = false := beq_eq_false_iff_ne.mpr c3
  have c3b1 : (t313.toList != ([] : List UInt8)) = true := bne_iff_ne.mpr c3
  replace H := zM H
  obtain ⟨t315, A50, H⟩ := H
  try dsimp only at H
  have A5 := Aside0.mk A50
  clear A50
  by_cases c6 : t315 = 0
  ·rw [if_pos c6] at H
   exact absurd H (by simp)
  ·rw [if_neg c6] at H
   have c6b0 : (t315 == 0) = false := beq_eq_false_iff_ne.mpr c6
   have c6b1 : (t315 != 0) = true := bne_iff_ne.mpr c6
   have H' := Aside0.mk H
   clear H
   go_enter Tryz.func25, Tryz.ntmps25
   go_wp2_with (first | ((with_reducible refine gate_callee (f := 14) rfl ?_); refine goesL_ (some 20) rfl rfl Tryz.func14 (by kernel_rfl) rfl #[.int .u64 a0] rfl zL ?_; (with_reducible refine (spec_Exact.calls k a0 t313 t314 _ A2.out).mono ?_); rintro e w7 ⟨rfl, hb⟩; refine ⟨_, rfl, ?_⟩; replace HB := Aside0.mk (below_step zB hb); (try clear hb)) | ((with_reducible refine gate_callee (f := 60) rfl ?_); refine goesL_ (some 26) rfl rfl Tryz.func60 (by kernel_rfl) rfl #[.int .i64 63] rfl zL ?_; (with_reducible refine (spec_l03Pow.calls k 63 t315 _ A5.out).mono ?_); rintro e w' ⟨rfl, ⟨nd, rfl⟩⟩; refine ⟨_, rfl, ?_⟩))
   go_loopg [7] k (fun kq v7 w' => ∃ (x7_1 : Int), v7 = .int .i64 x7_1 ∧ Aside0 (spec_Shortest.l0 kq t313 t314 (Int.tmod a0 t315) x7_1 = some (r1, r2)) ∧ Aside0 (kq ≤ k) ∧ Aside0 (Below w.heap.size w w'))
   case atStart => exact ⟨(1), zE, H', ⟨Nat.le_refl _⟩, ⟨zB⟩⟩
   case round =>
    clear H'
    obtain ⟨x7_1, rfl, HA, HK1, HB⟩ := hrel
    cases gk with
    | zero => exact absurd HA.out (by simp [spec_Shortest.l0])
    | succ k1 =>
     have H := HA.out
     clear HA
     simp only [spec_Shortest.l0] at H
     have HC8 := Aside0.mk H
     clear H
     go_upto_region 6 with (fail)
     go_cut [35] (fun v35 wc => ∃ (kq : Nat) (x35_7 : Bool), v35 = .bool x35_7 ∧ Aside0 (spec_Shortest.j1 kq t313 t314 (Int.tmod a0 t315) x7_1 x35_7 = some (r1, r2)) ∧ Aside0 (kq ≤ k1) ∧ Aside0 (Below w.heap.size w wc))
     case first =>
      have H := HC8.out
      clear HC8
      by_cases c9 : x7_1 ≤ 17
      ·rw [if_pos c9] at H
       have c9b0 := decide_eq_true c9
       clear c9
       (first | rw [c9b0] | (simp only [i64_w, i32_w]; rw [c9b0]) | skip)
       have H' := Aside0.mk H
       clear H
       go_wp2
       go_meet
       case rel => exact ⟨_, (decide (x7_1 < (t313.size : Int))), zE, H', ⟨by have := HK1.out; first | omega | exact Nat.le_refl _⟩, ⟨zB⟩⟩
      ·rw [if_neg c9] at H
       have c9b0 := decide_eq_false c9
       clear c9
       (first | rw [c9b0] | (simp only [i64_w, i32_w]; rw [c9b0]) | skip)
       have H' := Aside0.mk H
       clear H
       go_wp2
       go_meet
       case rel => exact ⟨_, (false), zE, H', ⟨by have := HK1.out; first | omega | exact Nat.le_refl _⟩, ⟨zB⟩⟩
     case rest =>
      clear HC8
      obtain ⟨kq, x35_7, rfl, HA, HJ7, HB⟩ := hcut
      cases kq with
      | zero => exact absurd HA.out (by simp [spec_Shortest.j1])
      | succ kj7 =>
       have H := HA.out
       clear HA
       simp only [spec_Shortest.j1] at H
       by_cases c10 : x35_7 = true
       ·subst c10
        have H1 := H
        rw [if_pos rfl] at H1
        clear H
        have H := H1
        clear H1
        by_cases c11 : 0 ≤ x7_1
        ·rw [if_pos c11] at H
         have c11b0 := eq_true c11
         have c11b1 := decide_eq_true c11
         clear c11
         by_cases c12 : x7_1 ≤ (t313.size : Int)
         ·rw [if_pos c12] at H
          have c12b0 := eq_true c12
          have c12b1 := decide_eq_true c12
          clear c12
          replace H := zM H
          obtain ⟨⟨t316, t317⟩, A130, H⟩ := H
          try dsimp only at H
          have A13 := Aside0.mk A130
          clear A130
          have c14b0 := eq_true (of_decide_eq_true zA : 0 ≤ x7_1)
          have c15b0 := eq_true (of_decide_eq_true zA : x7_1 ≤ (t313.size : Int))
          replace H := zM H
          obtain ⟨t318, A160, H⟩ := H
          try dsimp only at H
          have A16 := Aside0.mk A160
          clear A160
          by_cases c17 : 1 + t318.size ≤ 9223372036854775807
          ·rw [if_pos c17] at H
           have c17b0 := eq_true c17
           have c17b1 := decide_eq_true c17
           try have c17b2 : (9223372036854775807 < 1 + t318.size) = False := eq_false (Nat.not_lt.2 c17)
           replace H := zM H
           obtain ⟨t319, A180, H⟩ := H
           try dsimp only at H
           have A18 := Aside0.mk A180
           clear A180
           replace H := zM H
           obtain ⟨t320, A190, H⟩ := H
           try dsimp only at H
           have A19 := Aside0.mk A190
           clear A190
           have HC20 := Aside0.mk H
           clear H
           go_upto_region 15 with (first | ((with_reducible refine gate_callee (f := 17) rfl ?_); refine goesL_ (some 49) rfl rfl Tryz.func17 (by kernel_rfl) rfl #[.string (t313.extract 0 (x7_1 : Int).toNat), .string (⟨#[49]⟩ : ByteArray)] rfl zL ?_; (with_reducible refine (spec_GreatAdd.calls kj7 (t313.extract 0 (x7_1 : Int).toNat) (⟨#[49]⟩ : ByteArray) t316 t317 _ A13.out).mono ?_); rintro e w21 ⟨rfl, hb⟩; refine ⟨_, rfl, ?_⟩; replace HB := Aside0.mk (below_step zB hb); (try clear hb)) | ((try rw [show t313.size - (x7_1 : Int).toNat = (t313.extract (x7_1 : Int).toNat t313.size).size from (by simp)]); (with_reducible refine gate_callee (f := 62) rfl ?_); refine goesL_ (some 58) rfl rfl Tryz.func62 (by kernel_rfl) rfl #[.int .i64 (wrap64 (((t313.extract (x7_1 : Int).toNat t313.size).size : Int) - 1)), .int .u8 48] rfl zL ?_; (with_reducible refine (spec_l01Long.calls kj7 (wrap64 (((t313.extract (x7_1 : Int).toNat t313.size).size : Int) - 1)) 48 t318 _ A16.out).mono ?_); rintro e w22 ⟨rfl, hb⟩; refine ⟨_, rfl, ?_⟩; replace HB := Aside0.mk (below_step zB hb); (try clear hb)) | ((with_reducible refine gate_callee (f := 16) rfl ?_); refine goesL_ (some 62) rfl rfl Tryz.func16 (by kernel_rfl) rfl #[.string (t313.extract 0 (x7_1 : Int).toNat), .int .i64 (wrap64 ((wrap64 (t314 + (t313.size : Int))) - x7_1))] rfl zL ?_; (with_reducible refine (spec_Nearest.calls kj7 (t313.extract 0 (x7_1 : Int).toNat) (wrap64 ((wrap64 (t314 + (t313.size : Int))) - x7_1)) t319 _ A18.out).mono ?_); rintro e w23 ⟨rfl, hb⟩; refine ⟨_, rfl, ?_⟩; replace HB := Aside0.mk (below_step zB hb); (try clear hb)) | ((with_reducible refine gate_callee (f := 16) rfl ?_); refine goesL_ (some 67) rfl rfl Tryz.func16 (by kernel_rfl) rfl #[.string t316, .int .i64 (wrap64 ((wrap64 (t314 + (t313.size : Int))) - x7_1))] rfl zL ?_; (with_reducible refine (spec_Nearest.calls kj7 t316 (wrap64 ((wrap64 (t314 + (t313.size : Int))) - x7_1)) t320 _ A19.out).mono ?_); rintro e w24 ⟨rfl, hb⟩; refine ⟨_, rfl, ?_⟩; replace HB := Aside0.mk (below_step zB hb); (try clear hb)))
           (try simp only [Act.put, List.setIfInBounds_toArray, List.set_cons_zero, List.set_cons_succ])
           go_cut [14, 75] (fun v14 v75 wc => ∃ (kq : Nat) (x75_19 : Bool), v14 = .bool (t319 == (Int.tmod a0 t315)) ∧ v75 = .bool x75_19 ∧ Aside0 (spec_Shortest.j2 kq t313 t314 (Int.tmod a0 t315) x7_1 (t313.extract 0 (x7_1 : Int).toNat) (wrap64 ((wrap64 (t314 + (t313.size : Int))) - x7_1)) t316 (t313.extract (x7_1 : Int).toNat t313.size) ((⟨#[53]⟩ : ByteArray) ++ t318) (t319 == (Int.tmod a0 t315)) (t320 == (Int.tmod a0 t315)) x75_19 = some (r1, r2)) ∧ Aside0 (kq ≤ kj7) ∧ Aside0 (Below w.heap.size w wc))
           case first =>
            have H := HC20.out
            clear HC20
            by_cases c25 : t319 = (Int.tmod a0 t315)
            ·rw [if_pos c25] at H
             have c25b0 : (t319 == (Int.tmod a0 t315)) = true := beq_iff_eq.mpr c25
             have c25b1 : (t319 != (Int.tmod a0 t315)) = false := bne_eq_false_iff_eq.mpr c25
             clear c25
             (first | rw [c25b0] | (simp only [i64_w, i32_w]; rw [c25b0]) | skip)
             have H' := Aside0.mk H
             clear H
             go_wp2
             go_meet
             case rel => exact ⟨_, (false), (by first | rfl | (simp [*]; done)), zE, H', ⟨by have := HK1.out; have := HJ7.out; first | omega | exact Nat.le_refl _⟩, ⟨zB⟩⟩
            ·rw [if_neg c25] at H
             have c25b0 : (t319 == (Int.tmod a0 t315)) = false := beq_eq_false_iff_ne.mpr c25
             have c25b1 : (t319 != (Int.tmod a0 t315)) = true := bne_iff_ne.mpr c25
             (first | rw [c25b0] | (simp only [i64_w, i32_w]; rw [c25b0]) | skip)
             have H' := Aside0.mk H
             clear H
             go_wp2
             go_meet
             case rel => exact ⟨_, (!(t320 == (Int.tmod a0 t315))), (by first | rfl | (simp [*]; done)), zE, H', ⟨by have := HK1.out; have := HJ7.out; first | omega | exact Nat.le_refl _⟩, ⟨zB⟩⟩
           case rest =>
            clear HC20
            obtain ⟨kq, x75_19, rfl, rfl, HA, HJ19, HB⟩ := hcut
            cases kq with
            | zero => exact absurd HA.out (by simp [spec_Shortest.j2])
            | succ kj19 =>
             have H := HA.out
             clear HA
             simp only [spec_Shortest.j2] at H
             generalize hh13 : ((⟨#[53]⟩ : ByteArray) ++ t318) = h13 at H ⊢
             generalize hr12 : (t313.extract (x7_1 : Int).toNat t313.size) = r12 at H ⊢
             generalize hl8 : (t313.extract 0 (x7_1 : Int).toNat) = l8 at H ⊢
             by_cases c26 : x75_19 = true
             ·subst c26
              have H1 := H
              rw [if_pos rfl] at H1
              clear H
              have H := H1
              clear H1
              have H' := Aside0.mk H
              clear H
              go_wp2
              go_roundg kj19
              case measure => have := HK1.out; have := HJ7.out; have := HJ19.out; omega
              case rel => exact ⟨(wrap64 (x7_1 + 1)), zE, H', ⟨by have := HK1.out; have := HJ7.out; have := HJ19.out; omega⟩, ⟨zB⟩⟩
             ·replace c26 := Bool.eq_false_iff.mpr c26
              subst c26
              have H1 := H
              rw [if_neg (show ¬ (false = true) by decide)] at H1
              clear H
              have H := H1
              clear H1
              obtain ⟨ji27, hji27⟩ : ∃ j_ : Int, (wrap64 (x7_1 - 1)) = j_ := ⟨_, rfl⟩
              first | rw [hji27] at H | simp only [hji27] at H
              have hji27w : (IntKind.i64.wrap (x7_1 - 1)) = ji27 := (i64_w _).trans hji27
              by_cases c28 : 0 ≤ (ji27)
              ·rw [if_pos c28] at H
               have c28b0 := decide_eq_true c28
               clear c28
               by_cases c29 : (ji27) < (l8.size : Int)
               ·rw [if_pos c29] at H
                have c29b0 := decide_eq_true c29
                clear c29
                by_cases c31 : (t319 == (Int.tmod a0 t315)) = true
                ·rw [if_pos c31] at H
                 have c31b0 : (t319 == (Int.tmod a0 t315)) = true := c31
                 (try (have c31b1 : decide (t319 = (Int.tmod a0 t315)) = true := by simpa using c31))
                 (try (have c31b2 : (t319 == (Int.tmod a0 t315)) = true := by simpa using c31))
                 clear c31
                 by_cases c32 : (t320 == (Int.tmod a0 t315)) = true
                 ·rw [if_pos c32] at H
                  have c32b0 : (t320 == (Int.tmod a0 t315)) = true := c32
                  (try (have c32b1 : decide (t320 = (Int.tmod a0 t315)) = true := by simpa using c32))
                  (try (have c32b2 : (t320 == (Int.tmod a0 t315)) = true := by simpa using c32))
                  clear c32
                  by_cases c33 : (Op.bytesLess h13.toList r12.toList) = true
                  ·rw [if_pos c33] at H
                   have c33b0 : (Op.bytesLess h13.toList r12.toList) = true := c33
                   clear c33
                   replace H := zM H
                   obtain ⟨⟨t321, t322⟩, A340, H⟩ := H
                   replace H : (some (t321, t322)) = some (r1, r2) := H
                   have A34 := Aside0.mk A340
                   clear A340
                   simp only [Option.some.injEq, Prod.mk.injEq] at H
                   obtain ⟨rfl, rfl⟩ := H
                   have p30 : 0 ≤ ((ji27) : Int) := of_decide_eq_true zA
                   have q30 : (ji27) < (l8.size : Int) := of_decide_eq_true zA
                   have hx30 := bt_at l8 (ji27)
                   replace p30 := eq_true p30
                   replace q30 := eq_true q30
                   go_wp2_with (first | ((with_reducible refine gate_callee (f := 63) rfl ?_); refine goesL_ (some 106) rfl rfl Tryz.func63 (by kernel_rfl) rfl #[.string t316, .int .i64 (wrap64 ((wrap64 (t314 + (t313.size : Int))) - x7_1))] rfl zL ?_; (with_reducible refine (spec_l07Ahead.calls kj19 t316 (wrap64 ((wrap64 (t314 + (t313.size : Int))) - x7_1)) t321 t322 _ A34.out).mono ?_); rintro e w' ⟨rfl, ⟨nd, rfl⟩⟩; refine ⟨_, rfl, ?_⟩))
                   go_ret2
                   exact ⟨by first | rfl | (simp [errW_none, errW_some] <;> rfl) | (simp only [← hji27]; first | rfl | (simp [errW_none, errW_some] <;> rfl)) | (simp [*, errW_none, errW_some] <;> rfl), zB⟩
                  ·rw [if_neg c33] at H
                   have c33b0 : (Op.bytesLess h13.toList r12.toList) = false := by simpa using c33
                   clear c33
                   by_cases c35 : r12.toList = h13.toList
                   ·rw [if_pos c35] at H
                    have c35b0 : (r12.toList == h13.toList) = true := beq_iff_eq.mpr c35
                    have c35b1 : (r12.toList != h13.toList) = false := bne_eq_false_iff_eq.mpr c35
                    clear c35
                    by_cases c36 : (((((bt l8 (ji27)) - 48) % 256) % 2) = 0)
                    ·rw [if_pos c36] at H
                     have c36b0 : (((((bt l8 (ji27)) - 48) % 256) % 2) == 0) = true := beq_iff_eq.mpr c36
                     have c36b2 : ((((bt l8 (ji27)) - 48) % 2) == 0) = true := by rw [← c36b0, show (((bt l8 (ji27)) - 48) % 256) % 2 = ((bt l8 (ji27)) - 48) % 2 from by omega]
                     have c36b1 : (((((bt l8 (ji27)) - 48) % 256) % 2) != 0) = false := bne_eq_false_iff_eq.mpr c36
                     clear c36
                     replace H := zM H
                     obtain ⟨⟨t323, t324⟩, A370, H⟩ := H
                     replace H : (some (t323, t324)) = some (r1, r2) := H
                     have A37 := Aside0.mk A370
                     clear A370
                     simp only [Option.some.injEq, Prod.mk.injEq] at H
                     obtain ⟨rfl, rfl⟩ := H
                     have p30 : 0 ≤ ((ji27) : Int) := of_decide_eq_true zA
                     have q30 : (ji27) < (l8.size : Int) := of_decide_eq_true zA
                     have hx30 := bt_at l8 (ji27)
                     replace p30 := eq_true p30
                     replace q30 := eq_true q30
                     go_wp2_with (first | ((with_reducible refine gate_callee (f := 63) rfl ?_); refine goesL_ (some 106) rfl rfl Tryz.func63 (by kernel_rfl) rfl #[.string l8, .int .i64 (wrap64 ((wrap64 (t314 + (t313.size : Int))) - x7_1))] rfl zL ?_; (with_reducible refine (spec_l07Ahead.calls kj19 l8 (wrap64 ((wrap64 (t314 + (t313.size : Int))) - x7_1)) t323 t324 _ A37.out).mono ?_); rintro e w' ⟨rfl, ⟨nd, rfl⟩⟩; refine ⟨_, rfl, ?_⟩))
                     go_ret2
                     exact ⟨by first | rfl | (simp [errW_none, errW_some] <;> rfl) | (simp only [← hji27]; first | rfl | (simp [errW_none, errW_some] <;> rfl)) | (simp [*, errW_none, errW_some] <;> rfl), zB⟩
                    ·rw [if_neg c36] at H
                     have c36b0 : (((((bt l8 (ji27)) - 48) % 256) % 2) == 0) = false := beq_eq_false_iff_ne.mpr c36
                     have c36b2 : ((((bt l8 (ji27)) - 48) % 2) == 0) = false := by rw [← c36b0, show (((bt l8 (ji27)) - 48) % 256) % 2 = ((bt l8 (ji27)) - 48) % 2 from by omega]
                     have c36b1 : (((((bt l8 (ji27)) - 48) % 256) % 2) != 0) = true := bne_iff_ne.mpr c36
                     replace H := zM H
                     obtain ⟨⟨t325, t326⟩, A380, H⟩ := H
                     replace H : (some (t325, t326)) = some (r1, r2) := H
                     have A38 := Aside0.mk A380
                     clear A380
                     simp only [Option.some.injEq, Prod.mk.injEq] at H
                     obtain ⟨rfl, rfl⟩ := H
                     have p30 : 0 ≤ ((ji27) : Int) := of_decide_eq_true zA
                     have q30 : (ji27) < (l8.size : Int) := of_decide_eq_true zA
                     have hx30 := bt_at l8 (ji27)
                     replace p30 := eq_true p30
                     replace q30 := eq_true q30
                     go_wp2_with (first | ((with_reducible refine gate_callee (f := 63) rfl ?_); refine goesL_ (some 106) rfl rfl Tryz.func63 (by kernel_rfl) rfl #[.string t316, .int .i64 (wrap64 ((wrap64 (t314 + (t313.size : Int))) - x7_1))] rfl zL ?_; (with_reducible refine (spec_l07Ahead.calls kj19 t316 (wrap64 ((wrap64 (t314 + (t313.size : Int))) - x7_1)) t325 t326 _ A38.out).mono ?_); rintro e w' ⟨rfl, ⟨nd, rfl⟩⟩; refine ⟨_, rfl, ?_⟩))
                     go_ret2
                     exact ⟨by first | rfl | (simp [errW_none, errW_some] <;> rfl) | (simp only [← hji27]; first | rfl | (simp [errW_none, errW_some] <;> rfl)) | (simp [*, errW_none, errW_some] <;> rfl), zB⟩
                   ·rw [if_neg c35] at H
                    have c35b0 : (r12.toList == h13.toList) = false := beq_eq_false_iff_ne.mpr c35
                    have c35b1 : (r12.toList != h13.toList) = true := bne_iff_ne.mpr c35
                    replace H := zM H
                    obtain ⟨⟨t327, t328⟩, A390, H⟩ := H
                    replace H : (some (t327, t328)) = some (r1, r2) := H
                    have A39 := Aside0.mk A390
                    clear A390
                    simp only [Option.some.injEq, Prod.mk.injEq] at H
                    obtain ⟨rfl, rfl⟩ := H
                    have p30 : 0 ≤ ((ji27) : Int) := of_decide_eq_true zA
                    have q30 : (ji27) < (l8.size : Int) := of_decide_eq_true zA
                    have hx30 := bt_at l8 (ji27)
                    replace p30 := eq_true p30
                    replace q30 := eq_true q30
                    go_wp2_with (first | ((with_reducible refine gate_callee (f := 63) rfl ?_); refine goesL_ (some 106) rfl rfl Tryz.func63 (by kernel_rfl) rfl #[.string l8, .int .i64 (wrap64 ((wrap64 (t314 + (t313.size : Int))) - x7_1))] rfl zL ?_; (with_reducible refine (spec_l07Ahead.calls kj19 l8 (wrap64 ((wrap64 (t314 + (t313.size : Int))) - x7_1)) t327 t328 _ A39.out).mono ?_); rintro e w' ⟨rfl, ⟨nd, rfl⟩⟩; refine ⟨_, rfl, ?_⟩))
                    go_ret2
                    exact ⟨by first | rfl | (simp [errW_none, errW_some] <;> rfl) | (simp only [← hji27]; first | rfl | (simp [errW_none, errW_some] <;> rfl)) | (simp [*, errW_none, errW_some] <;> rfl), zB⟩
                 ·rw [if_neg c32] at H
                  have c32b0 : (t320 == (Int.tmod a0 t315)) = false := by simpa using c32
                  (try (have c32b1 : decide (t320 = (Int.tmod a0 t315)) = false := by simpa using c32))
                  (try (have c32b2 : (t320 == (Int.tmod a0 t315)) = false := by simpa using c32))
                  (try (have c32b3 : ¬ (t320 = (Int.tmod a0 t315)) := by simpa using c32))
                  clear c32
                  replace H := zM H
                  obtain ⟨⟨t329, t330⟩, A400, H⟩ := H
                  replace H : (some (t329, t330)) = some (r1, r2) := H
                  have A40 := Aside0.mk A400
                  clear A400
                  simp only [Option.some.injEq, Prod.mk.injEq] at H
                  obtain ⟨rfl, rfl⟩ := H
                  have p30 : 0 ≤ ((ji27) : Int) := of_decide_eq_true zA
                  have q30 : (ji27) < (l8.size : Int) := of_decide_eq_true zA
                  have hx30 := bt_at l8 (ji27)
                  replace p30 := eq_true p30
                  replace q30 := eq_true q30
                  go_wp2_with (first | ((with_reducible refine gate_callee (f := 63) rfl ?_); refine goesL_ (some 106) rfl rfl Tryz.func63 (by kernel_rfl) rfl #[.string l8, .int .i64 (wrap64 ((wrap64 (t314 + (t313.size : Int))) - x7_1))] rfl zL ?_; (with_reducible refine (spec_l07Ahead.calls kj19 l8 (wrap64 ((wrap64 (t314 + (t313.size : Int))) - x7_1)) t329 t330 _ A40.out).mono ?_); rintro e w' ⟨rfl, ⟨nd, rfl⟩⟩; refine ⟨_, rfl, ?_⟩))
                  go_ret2
                  exact ⟨by first | rfl | (simp [errW_none, errW_some] <;> rfl) | (simp only [← hji27]; first | rfl | (simp [errW_none, errW_some] <;> rfl)) | (simp [*, errW_none, errW_some] <;> rfl), zB⟩
                ·rw [if_neg c31] at H
                 have c31b0 : (t319 == (Int.tmod a0 t315)) = false := by simpa using c31
                 (try (have c31b1 : decide (t319 = (Int.tmod a0 t315)) = false := by simpa using c31))
                 (try (have c31b2 : (t319 == (Int.tmod a0 t315)) = false := by simpa using c31))
                 (try (have c31b3 : ¬ (t319 = (Int.tmod a0 t315)) := by simpa using c31))
                 clear c31
                 replace H := zM H
                 obtain ⟨⟨t331, t332⟩, A410, H⟩ := H
                 replace H : (some (t331, t332)) = some (r1, r2) := H
                 have A41 := Aside0.mk A410
                 clear A410
                 simp only [Option.some.injEq, Prod.mk.injEq] at H
                 obtain ⟨rfl, rfl⟩ := H
                 have p30 : 0 ≤ ((ji27) : Int) := of_decide_eq_true zA
                 have q30 : (ji27) < (l8.size : Int) := of_decide_eq_true zA
                 have hx30 := bt_at l8 (ji27)
                 replace p30 := eq_true p30
                 replace q30 := eq_true q30
                 go_wp2_with (first | ((with_reducible refine gate_callee (f := 63) rfl ?_); refine goesL_ (some 106) rfl rfl Tryz.func63 (by kernel_rfl) rfl #[.string t316, .int .i64 (wrap64 ((wrap64 (t314 + (t313.size : Int))) - x7_1))] rfl zL ?_; (with_reducible refine (spec_l07Ahead.calls kj19 t316 (wrap64 ((wrap64 (t314 + (t313.size : Int))) - x7_1)) t331 t332 _ A41.out).mono ?_); rintro e w' ⟨rfl, ⟨nd, rfl⟩⟩; refine ⟨_, rfl, ?_⟩))
                 go_ret2
                 exact ⟨by first | rfl | (simp [errW_none, errW_some] <;> rfl) | (simp only [← hji27]; first | rfl | (simp [errW_none, errW_some] <;> rfl)) | (simp [*, errW_none, errW_some] <;> rfl), zB⟩
               ·rw [if_neg c29] at H
                exact absurd H (by simp)
              ·rw [if_neg c28] at H
               exact absurd H (by simp)
          ·rw [if_neg c17] at H
           exact absurd H (by simp)
         ·rw [if_neg c12] at H
          exact absurd H (by simp)
        ·rw [if_neg c11] at H
         exact absurd H (by simp)
       ·replace c10 := Bool.eq_false_iff.mpr c10
        subst c10
        have H1 : (some (t313, t314)) = some (r1, r2) := by rw [if_neg (show ¬ (false = true) by decide)] at H; exact H
        clear H
        have H := H1
        clear H1
        simp only [Option.some.injEq, Prod.mk.injEq] at H
        obtain ⟨rfl, rfl⟩ := H
        go_wp2
        go_ret2
        exact ⟨zF, zB⟩

end Go.Proofs.YtkjpelgdppmbjaaGreatDoor.MFnExactShowNumber
