-- by this session's own program mp.py over the kit's printer
import Derived.Test.YtkjpelgdppmbjaaGreatDoorSTZip
import Derived.Test.YtkjpelgdppmbjaaGreatDoorSTMFnShortestx0
import Derived.Test.YtkjpelgdppmbjaaGreatDoorSTMFnShortestx1
import Derived.Test.YtkjpelgdppmbjaaGreatDoorSTMFnShortestx3
import Derived.Test.YtkjpelgdppmbjaaGreatDoorSTMFnShortestx5
import Derived.Test.YtkjpelgdppmbjaaGreatDoorSTMFnShortestx7
namespace Go.Proofs.YtkjpelgdppmbjaaGreatDoor.MFnShortest
open Go.RowKit YtkjpelgdppmbjaaGreatDoorW.PrintWords YtkjpelgdppmbjaaGreatDoorW.PrintLast YtkjpelgdppmbjaaGreatDoorW.PrintMore
set_option maxHeartbeats 8000000
set_option maxRecDepth 100000
noncomputable section
attribute [local go_sem] max2_int min2_int max_two min_two max_three min_three max_four min_four
set_option linter.unusedVariables false
set_option linter.unusedSimpArgs false

def laws_FnShortest.j0 : Nat → Int → ByteArray → Int → Bool → Option (Bool)
 | 0, _, _, _, _ => none
 | k + 1, x6, x7, x8, x54 => if x54 = true then (some false) else (if (x7.size : Int) = 1 then (some true) else (if 0 ≤ (wrap64 ((x7.size : Int) - 1)) then (if (wrap64 ((x7.size : Int) - 1)) ≤ (x7.size : Int) then ((spec_GreatAdd.f k (x7.extract 0 ((wrap64 ((x7.size : Int) - 1)) : Int).toNat) (⟨#[49]⟩ : ByteArray)).bind fun bt348 => ((spec_Nearest.f k (x7.extract 0 ((wrap64 ((x7.size : Int) - 1)) : Int).toNat) (wrap64 (x8 + 1))).bind fun t350 => (if t350 = x6 then (some false) else ((spec_Nearest.f k bt348.1 (wrap64 (x8 + 1))).bind fun t351 => (some (t351 != x6)))))) else (none)) else (none)))
def laws_FnShortest.f (k : Nat) (l0 : List Int) : Option (Bool) := (laws_big.f l0).bind fun t337 => (if t337 = true then (some true) else ((spec_DrawNumbers.f k l0).bind fun bt338 => ((impl_Shortest.f k (Int.tmod bt338.1 9223372036854775808)).bind fun bt341 => ((spec_PartsOfNumber.f k (Int.tmod bt338.1 9223372036854775808)).bind fun bt343 => (if bt343.1 = 4 then ((impl_Nearest.f bt341.1 bt341.2).bind fun t347 => (if t347 = (Int.tmod bt338.1 9223372036854775808) then (if (bt341.1.size : Int) > 17 then (laws_FnShortest.j0 k (Int.tmod bt338.1 9223372036854775808) bt341.1 bt341.2 true) else (if 0 ≤ (wrap64 ((bt341.1.size : Int) - 1)) then (if (wrap64 ((bt341.1.size : Int) - 1)) < (bt341.1.size : Int) then (laws_FnShortest.j0 k (Int.tmod bt338.1 9223372036854775808) bt341.1 bt341.2 ((bt bt341.1 (wrap64 ((bt341.1.size : Int) - 1))) == 48)) else (none)) else (none))) else (laws_FnShortest.j0 k (Int.tmod bt338.1 9223372036854775808) bt341.1 bt341.2 true))) else (if bt341.1.toList = ([] : List UInt8) then (some (bt341.2 == 0)) else (some false)))))))
theorem laws_FnShortest.calls (k : Nat) (A0 : Option Addr) (c0 : Nat) (l0 : List Int) (r : Bool) (w : World) (hm : G.Homey w) (hr0 : Kd.C (Kd.int .u8) w A0 l0.length l0) (hc0 : l0.length ≤ c0) (h : laws_FnShortest.f k l0 = some r) :
  Calls Tryz.prog 11 #[.slice A0 l0.length c0] w fun e w' => e = .returned (.bool r) ∧ Below w.heap.size w w' := by
 have hf35_0 : ∀ (v0 v1 v2 v3 : Value) (W : World), (Instr.field 35 (.agg #[v0, v1, v2, v3]) 0).run Tryz.prog W = .ok (v0) W := fun _ _ _ _ _ => by kernel_rfl
 have HR0 := Aside0.mk hr0
 have HC0 := Aside0.mk hc0
 clear hr0 hc0
 have HB := Aside0.mk (Below.refl w.heap.size w)
 have H : ((laws_big.f l0).bind fun t337 => (if t337 = true then (some true) else ((spec_DrawNumbers.f k l0).bind fun bt338 => ((impl_Shortest.f k (Int.tmod bt338.1 9223372036854775808)).bind fun bt341 => ((spec_PartsOfNumber.f k (Int.tmod bt338.1 9223372036854775808)).bind fun bt343 => (if bt343.1 = 4 then ((impl_Nearest.f bt341.1 bt341.2).bind fun t347 => (if t347 = (Int.tmod bt338.1 9223372036854775808) then (if (bt341.1.size : Int) > 17 then (laws_FnShortest.j0 k (Int.tmod bt338.1 9223372036854775808) bt341.1 bt341.2 true) else (if 0 ≤ (wrap64 ((bt341.1.size : Int) - 1)) then (if (wrap64 ((bt341.1.size : Int) - 1)) < (bt341.1.size : Int) then (laws_FnShortest.j0 k (Int.tmod bt338.1 9223372036854775808) bt341.1 bt341.2 ((bt bt341.1 (wrap64 ((bt341.1.size : Int) - 1))) == 48)) else (none)) else (none))) else (laws_FnShortest.j0 k (Int.tmod bt338.1 9223372036854775808) bt341.1 bt341.2 true))) else (if bt341.1.toList = ([] : List UInt8) then (some (bt341.2 == 0)) else (some false)))))))) = some r := h
 clear h
 replace H := zM H
 obtain ⟨t337, A20, H⟩ := H
 try dsimp only at H
 have A2 := Aside0.mk A20
 clear A20
 by_cases c3 : t337 = true
 ·subst c3
  have H1 : (some true) = some r := by rw [if_pos rfl] at H; exact H
  clear H
  have H := H1
  clear H1
  obtain rfl := Option.some.inj H
  go_enter Tryz.func11, Tryz.ntmps11
  go_wp2_with (first | ((with_reducible refine gate_callee (f := 12) rfl ?_); refine goesL_ (some 13) rfl rfl Tryz.func12 (by kernel_rfl) rfl #[.slice A0 l0.length c0] rfl zL ?_; (with_reducible refine (laws_big.calls _ _ l0 true _ ?side1 ?side2 A2.out).mono ?_); (case side1 => exact zP HR0.out); (case side2 => exact HC0.out); rintro e w' ⟨rfl, ⟨nd, rfl⟩⟩; refine ⟨_, rfl, ?_⟩))
  go_ret
  exact ⟨zF, zB⟩
 ·replace c3 := Bool.eq_false_iff.mpr c3
  subst c3
  have H1 := H
  rw [if_neg (show ¬ (false = true) by decide)] at H1
  clear H
  have H := H1
  clear H1
  replace H := zM H
  obtain ⟨⟨t338, t339, t340⟩, A40, H⟩ := H
  try dsimp only at H
  have A4 := Aside0.mk A40
  clear A40
  replace H := zM H
  obtain ⟨⟨t341, t342⟩, A50, H⟩ := H
  try dsimp only at H
  have A5 := Aside0.mk A50
  clear A50
  replace H := zM H
  obtain ⟨⟨t343, t344, t345, t346⟩, A60, H⟩ := H
  try dsimp only at H
  have A6 := Aside0.mk A60
  clear A60
  by_cases c7 : t343 = 4
  ·rw [if_pos c7] at H
   have c7b0 : (t343 == 4) = true := beq_iff_eq.mpr c7
   have c7b1 : (t343 != 4) = false := bne_eq_false_iff_eq.mpr c7
   clear c7
   have HC8 := Aside0.mk H
   clear H
   go_enter Tryz.func11, Tryz.ntmps11
   go_upto_region 8 with (first | ((with_reducible refine gate_callee (f := 12) rfl ?_); refine goesL_ (some 13) rfl rfl Tryz.func12 (by kernel_rfl) rfl #[.slice A0 l0.length c0] rfl zL ?_; (with_reducible refine (laws_big.calls _ _ l0 false _ ?side1 ?side2 A2.out).mono ?_); (case side1 => exact zP HR0.out); (case side2 => exact HC0.out); rintro e w' ⟨rfl, ⟨nd, rfl⟩⟩; refine ⟨_, rfl, ?_⟩) | ((with_reducible refine gate_callee (f := 13) rfl ?_); refine goesL_ (some 16) rfl rfl Tryz.func13 (by kernel_rfl) rfl #[.slice A0 l0.length c0] rfl zL ?_; (with_reducible refine (spec_DrawNumbers.calls k _ _ l0 t338 t339 t340 _ ?side1 ?side2 A4.out).mono ?_); (case side1 => exact zP HR0.out); (case side2 => exact HC0.out); rintro e w9 ⟨rfl, hb⟩; refine ⟨_, rfl, ?_⟩; replace HB := Aside0.mk (below_step zB hb); (try clear hb)) | ((with_reducible refine gate_callee (f := 26) rfl ?_); refine goesL_ (some 24) rfl rfl Tryz.func26 (by kernel_rfl) rfl #[.int .u64 (Int.tmod t338 9223372036854775808)] rfl zL ?_; (with_reducible refine (impl_Shortest.calls k (Int.tmod t338 9223372036854775808) t341 t342 _ (hm.below zC) A5.out).mono ?_); rintro e w10 ⟨rfl, hb⟩; refine ⟨_, rfl, ?_⟩; replace HB := Aside0.mk (below_step zB hb); (try clear hb)) | ((with_reducible refine gate_callee (f := 20) rfl ?_); refine goesL_ (some 28) rfl rfl Tryz.func20 (by kernel_rfl) rfl #[.int .u64 (Int.tmod t338 9223372036854775808)] rfl zL ?_; (with_reducible refine (spec_PartsOfNumber.calls k (Int.tmod t338 9223372036854775808) t343 t344 t345 t346 _ A6.out).mono ?_); rintro e w11 ⟨rfl, hb⟩; refine ⟨_, rfl, ?_⟩; replace HB := Aside0.mk (below_step zB hb); (try clear hb)))
   (try simp only [Act.put, List.setIfInBounds_toArray, List.set_cons_zero, List.set_cons_succ])
   go_cut [54] (fun v54 wc => ∃ (kq : Nat) (x54_7 : Bool), v54 = .bool x54_7 ∧ Aside0 (laws_FnShortest.j0 kq (Int.tmod t338 9223372036854775808) t341 t342 x54_7 = some r) ∧ Aside0 (kq ≤ k) ∧ Aside0 (Below w.heap.size w wc))
   case first =>
    have H := HC8.out
    clear HC8
    replace H := zM H
    obtain ⟨t347, A120, H⟩ := H
    try dsimp only at H
    have A12 := Aside0.mk A120
    clear A120
    by_cases c13 : t347 = (Int.tmod t338 9223372036854775808)
    ·rw [if_pos c13] at H
     have c13b0 : (t347 == (Int.tmod t338 9223372036854775808)) = true := beq_iff_eq.mpr c13
     have c13b1 : (t347 != (Int.tmod t338 9223372036854775808)) = false := bne_eq_false_iff_eq.mpr c13
     clear c13
     (first | rw [c13b0] | (simp only [i64_w, i32_w]; rw [c13b0]) | skip)
     by_cases c14 : (t341.size : Int) > 17
     ·rw [if_pos c14] at H
      have c14b0 : decide (17 < (t341.size : Int)) = true := decide_eq_true c14
      have c14b1 : decide (17 < t341.size) = true := decide_eq_true (by omega)
      clear c14
      have H' := Aside0.mk H
      clear H
      go_wp2_with (first | ((with_reducible refine gate_callee (f := 15) rfl ?_); refine goesL_ (some 39) rfl rfl Tryz.func15 (by kernel_rfl) rfl #[.string t341, .int .i64 t342] rfl zL ?_; (with_reducible refine (impl_Nearest.calls t341 t342 t347 _ (hm.below zC) A12.out).mono ?_); rintro e w15 ⟨rfl, hb⟩; refine ⟨_, rfl, ?_⟩; replace HB := Aside0.mk (below_step zB hb); (try clear hb)))
      go_meet
      case rel => exact ⟨_, (true), zE, H', ⟨by first | omega | exact Nat.le_refl _⟩, ⟨zB⟩⟩
     ·rw [if_neg c14] at H
      have c14b0 : decide (17 < (t341.size : Int)) = false := decide_eq_false c14
      have c14b1 : decide (17 < t341.size) = false := decide_eq_false (by omega)
      clear c14
      obtain ⟨ji16, hji16⟩ : ∃ j_ : Int, (wrap64 ((t341.size : Int) - 1)) = j_ := ⟨_, rfl⟩
      first | rw [hji16] at H | simp only [hji16] at H
      (try rw [hji16] at A12)
      have hji16w : (IntKind.i64.wrap ((t341.size : Int) - 1)) = ji16 := (i64_w _).trans hji16
      by_cases c17 : 0 ≤ (ji16)
      ·rw [if_pos c17] at H
       have c17b0 := decide_eq_true c17
       clear c17
       by_cases c18 : (ji16) < (t341.size : Int)
       ·rw [if_pos c18] at H
        have c18b0 := decide_eq_true c18
        clear c18
        have H' := Aside0.mk H
        clear H
        go_wp2_with (first | ((with_reducible refine gate_callee (f := 15) rfl ?_); refine goesL_ (some 39) rfl rfl Tryz.func15 (by kernel_rfl) rfl #[.string t341, .int .i64 t342] rfl zL ?_; (with_reducible refine (impl_Nearest.calls t341 t342 t347 _ (hm.below zC) A12.out).mono ?_); rintro e w20 ⟨rfl, hb⟩; refine ⟨_, rfl, ?_⟩; replace HB := Aside0.mk (below_step zB hb); (try clear hb); have p19 : 0 ≤ ((ji16) : Int) := of_decide_eq_true zA; have q19 : (ji16) < (t341.size : Int) := of_decide_eq_true zA; have hx19 := bt_at t341 (ji16); replace p19 := eq_true p19; replace q19 := eq_true q19))
        go_meet
        case rel => exact ⟨_, (((bt t341 (ji16)) == 48)), (by first | rfl | (simp; done) | (simp only [← hji16] <;> (first | rfl | simp)) | (simp [*]; done)), H', ⟨by first | omega | exact Nat.le_refl _⟩, ⟨zB⟩⟩
       ·rw [if_neg c18] at H
        exact absurd H (by simp)
      ·rw [if_neg c17] at H
       exact absurd H (by simp)
    ·rw [if_neg c13] at H
     have c13b0 : (t347 == (Int.tmod t338 9223372036854775808)) = false := beq_eq_false_iff_ne.mpr c13
     have c13b1 : (t347 != (Int.tmod t338 9223372036854775808)) = true := bne_iff_ne.mpr c13
     (first | rw [c13b0] | (simp only [i64_w, i32_w]; rw [c13b0]) | skip)
     have H' := Aside0.mk H
     clear H
     go_wp2_with (first | ((with_reducible refine gate_callee (f := 15) rfl ?_); refine goesL_ (some 39) rfl rfl Tryz.func15 (by kernel_rfl) rfl #[.string t341, .int .i64 t342] rfl zL ?_; (with_reducible refine (impl_Nearest.calls t341 t342 t347 _ (hm.below zC) A12.out).mono ?_); rintro e w21 ⟨rfl, hb⟩; refine ⟨_, rfl, ?_⟩; replace HB := Aside0.mk (below_step zB hb); (try clear hb)))
     go_meet
     case rel => exact ⟨_, (true), zE, H', ⟨by first | omega | exact Nat.le_refl _⟩, ⟨zB⟩⟩
   case rest =>
    clear HC8
    try clear hx1
    try clear hx19
    obtain ⟨kq, x54_7, rfl, HA, HJ7, HB⟩ := hcut
    cases kq with
    | zero => exact absurd HA.out (by simp [laws_FnShortest.j0])
    | succ kj7 =>
     have H := HA.out
     clear HA
     simp only [laws_FnShortest.j0] at H
     by_cases c22 : x54_7 = true
     ·subst c22
      have H1 : (some false) = some r := by rw [if_pos rfl] at H; exact H
      clear H
      have H := H1
      clear H1
      obtain rfl := Option.some.inj H
      go_wp2
      go_ret
      exact ⟨zF, zB⟩
     ·replace c22 := Bool.eq_false_iff.mpr c22
      subst c22
      have H1 := H
      rw [if_neg (show ¬ (false = true) by decide)] at H1
      clear H
      have H := H1
      clear H1
      by_cases c23 : (t341.size : Int) = 1
      ·rw [if_pos c23] at H
       have c23b0 : ((t341.size : Int) == 1) = true := beq_iff_eq.mpr c23
       have c23b1 : ((t341.size : Int) != 1) = false := bne_eq_false_iff_eq.mpr c23
       clear c23
       obtain rfl := Option.some.inj H
       go_wp2
       go_ret
       exact ⟨zF, zB⟩
      ·rw [if_neg c23] at H
       have c23b0 : ((t341.size : Int) == 1) = false := beq_eq_false_iff_ne.mpr c23
       have c23b1 : ((t341.size : Int) != 1) = true := bne_iff_ne.mpr c23
       obtain ⟨ji24, hji24⟩ : ∃ j_ : Int, (wrap64 ((t341.size : Int) - 1)) = j_ := ⟨_, rfl⟩
       first | rw [hji24] at H | simp only [hji24] at H
       have hji24w : (IntKind.i64.wrap ((t341.size : Int) - 1)) = ji24 := (i64_w _).trans hji24
       by_cases c25 : 0 ≤ (ji24)
       ·rw [if_pos c25] at H
        have c25b0 := eq_true c25
        have c25b1 := decide_eq_true c25
        clear c25
        by_cases c26 : (ji24) ≤ (t341.size : Int)
        ·rw [if_pos c26] at H
         have c26b0 := eq_true c26
         have c26b1 := decide_eq_true c26
         clear c26
         replace H := zM H
         obtain ⟨⟨t348, t349⟩, A270, H⟩ := H
         try dsimp only at H
         have A27 := Aside0.mk A270
         clear A270
         replace H := zM H
         obtain ⟨t350, A280, H⟩ := H
         try dsimp only at H
         have A28 := Aside0.mk A280
         clear A280
         by_cases c29 : t350 = (Int.tmod t338 9223372036854775808)
         ·rw [if_pos c29] at H
          have c29b0 : (t350 == (Int.tmod t338 9223372036854775808)) = true := beq_iff_eq.mpr c29
          have c29b1 : (t350 != (Int.tmod t338 9223372036854775808)) = false := bne_eq_false_iff_eq.mpr c29
          clear c29
          obtain rfl := Option.some.inj H
          go_wp2_with (first | ((with_reducible refine gate_callee (f := 17) rfl ?_); refine goesL_ (some 65) rfl rfl Tryz.func17 (by kernel_rfl) rfl #[.string (t341.extract 0 ((ji24) : Int).toNat), .string (⟨#[49]⟩ : ByteArray)] rfl (by (try simp only [List.map_toArray, List.map_cons, List.map_nil]); first | done | (simp only [hji24]; rfl) | rfl | (simp only [List.length_drop, List.length_take]; rfl)) ?_; (with_reducible refine (spec_GreatAdd.calls kj7 (t341.extract 0 ((ji24) : Int).toNat) (⟨#[49]⟩ : ByteArray) t348 t349 _ A27.out).mono ?_); rintro e w30 ⟨rfl, hb⟩; refine ⟨_, rfl, ?_⟩; replace HB := Aside0.mk (below_step zB hb); (try clear hb)) | ((with_reducible refine gate_callee (f := 16) rfl ?_); refine goesL_ (some 71) rfl rfl Tryz.func16 (by kernel_rfl) rfl #[.string (t341.extract 0 ((ji24) : Int).toNat), .int .i64 (wrap64 (t342 + 1))] rfl (by (try simp only [List.map_toArray, List.map_cons, List.map_nil]); first | done | (simp only [hji24]; rfl) | rfl | (simp only [List.length_drop, List.length_take]; rfl)) ?_; (with_reducible refine (spec_Nearest.calls kj7 (t341.extract 0 ((ji24) : Int).toNat) (wrap64 (t342 + 1)) t350 _ A28.out).mono ?_); rintro e w31 ⟨rfl, hb⟩; refine ⟨_, rfl, ?_⟩; replace HB := Aside0.mk (below_step zB hb); (try clear hb)))
          go_ret
          exact ⟨by first | rfl | (simp [errW_none, errW_some] <;> rfl) | (simp only [← hji24]; first | rfl | (simp [errW_none, errW_some] <;> rfl)) | (simp [*, errW_none, errW_some] <;> rfl), zB⟩
         ·rw [if_neg c29] at H
          have c29b0 : (t350 == (Int.tmod t338 9223372036854775808)) = false := beq_eq_false_iff_ne.mpr c29
          have c29b1 : (t350 != (Int.tmod t338 9223372036854775808)) = true := bne_iff_ne.mpr c29
          replace H := zM H
          obtain ⟨t351, A320, H⟩ := H
          try dsimp only at H
          have A32 := Aside0.mk A320
          clear A320
          obtain rfl := Option.some.inj H
          go_wp2_with (first | ((with_reducible refine gate_callee (f := 17) rfl ?_); refine goesL_ (some 65) rfl rfl Tryz.func17 (by kernel_rfl) rfl #[.string (t341.extract 0 ((ji24) : Int).toNat), .string (⟨#[49]⟩ : ByteArray)] rfl (by (try simp only [List.map_toArray, List.map_cons, List.map_nil]); first | done | (simp only [hji24]; rfl) | rfl | (simp only [List.length_drop, List.length_take]; rfl)) ?_; (with_reducible refine (spec_GreatAdd.calls kj7 (t341.extract 0 ((ji24) : Int).toNat) (⟨#[49]⟩ : ByteArray) t348 t349 _ A27.out).mono ?_); rintro e w33 ⟨rfl, hb⟩; refine ⟨_, rfl, ?_⟩; replace HB := Aside0.mk (below_step zB hb); (try clear hb)) | ((with_reducible refine gate_callee (f := 16) rfl ?_); refine goesL_ (some 71) rfl rfl Tryz.func16 (by kernel_rfl) rfl #[.string (t341.extract 0 ((ji24) : Int).toNat), .int .i64 (wrap64 (t342 + 1))] rfl (by (try simp only [List.map_toArray, List.map_cons, List.map_nil]); first | done | (simp only [hji24]; rfl) | rfl | (simp only [List.length_drop, List.length_take]; rfl)) ?_; (with_reducible refine (spec_Nearest.calls kj7 (t341.extract 0 ((ji24) : Int).toNat) (wrap64 (t342 + 1)) t350 _ A28.out).mono ?_); rintro e w34 ⟨rfl, hb⟩; refine ⟨_, rfl, ?_⟩; replace HB := Aside0.mk (below_step zB hb); (try clear hb)) | (go_at_call 16; (with_reducible refine (spec_Nearest.calls kj7 t348 (wrap64 (t342 + 1)) t351 _ A32.out).mono ?_); rintro e w35 ⟨rfl, hb⟩; replace HB := Aside0.mk (below_step zB hb); (try clear hb)))
          go_ret
          exact ⟨by first | rfl | (simp [errW_none, errW_some] <;> rfl) | (simp only [← hji24]; first | rfl | (simp [errW_none, errW_some] <;> rfl)) | (simp [*, errW_none, errW_some] <;> rfl), zB⟩
        ·rw [if_neg c26] at H
         exact absurd H (by simp)
       ·rw [if_neg c25] at H
        exact absurd H (by simp)
  ·rw [if_neg c7] at H
   have c7b0 : (t343 == 4) = false := beq_eq_false_iff_ne.mpr c7
   have c7b1 : (t343 != 4) = true := bne_iff_ne.mpr c7
   by_cases c36 : t341.toList = ([] : List UInt8)
   ·rw [if_pos c36] at H
    have c36b0 : (t341.toList == ([] : List UInt8)) = true := beq_iff_eq.mpr c36
    have c36b1 : (t341.toList != ([] : List UInt8)) = false := bne_eq_false_iff_eq.mpr c36
    clear c36
    obtain rfl := Option.some.inj H
    go_enter Tryz.func11, Tryz.ntmps11
    go_wp2_with (first | ((with_reducible refine gate_callee (f := 12) rfl ?_); refine goesL_ (some 13) rfl rfl Tryz.func12 (by kernel_rfl) rfl #[.slice A0 l0.length c0] rfl zL ?_; (with_reducible refine (laws_big.calls _ _ l0 false _ ?side1 ?side2 A2.out).mono ?_); (case side1 => exact zP HR0.out); (case side2 => exact HC0.out); rintro e w' ⟨rfl, ⟨nd, rfl⟩⟩; refine ⟨_, rfl, ?_⟩) | ((with_reducible refine gate_callee (f := 13) rfl ?_); refine goesL_ (some 16) rfl rfl Tryz.func13 (by kernel_rfl) rfl #[.slice A0 l0.length c0] rfl zL ?_; (with_reducible refine (spec_DrawNumbers.calls k _ _ l0 t338 t339 t340 _ ?side1 ?side2 A4.out).mono ?_); (case side1 => exact zP HR0.out); (case side2 => exact HC0.out); rintro e w37 ⟨rfl, hb⟩; refine ⟨_, rfl, ?_⟩; replace HB := Aside0.mk (below_step zB hb); (try clear hb)) | ((with_reducible refine gate_callee (f := 26) rfl ?_); refine goesL_ (some 24) rfl rfl Tryz.func26 (by kernel_rfl) rfl #[.int .u64 (Int.tmod t338 9223372036854775808)] rfl zL ?_; (with_reducible refine (impl_Shortest.calls k (Int.tmod t338 9223372036854775808) t341 t342 _ (hm.below zC) A5.out).mono ?_); rintro e w38 ⟨rfl, hb⟩; refine ⟨_, rfl, ?_⟩; replace HB := Aside0.mk (below_step zB hb); (try clear hb)) | ((with_reducible refine gate_callee (f := 20) rfl ?_); refine goesL_ (some 28) rfl rfl Tryz.func20 (by kernel_rfl) rfl #[.int .u64 (Int.tmod t338 9223372036854775808)] rfl zL ?_; (with_reducible refine (spec_PartsOfNumber.calls k (Int.tmod t338 9223372036854775808) t343 t344 t345 t346 _ A6.out).mono ?_); rintro e w39 ⟨rfl, hb⟩; refine ⟨_, rfl, ?_⟩; replace HB := Aside0.mk (below_step zB hb); (try clear hb)))
    go_ret
    exact ⟨zF, zB⟩
   ·rw [if_neg c36] at H
    have c36b0 : (t341.toList == ([] : List UInt8)) = false := beq_eq_false_iff_ne.mpr c36
    have c36b1 : (t341.toList != ([] : List UInt8)) = true := bne_iff_ne.mpr c36
    obtain rfl := Option.some.inj H
    go_enter Tryz.func11, Tryz.ntmps11
    go_wp2_with (first | ((with_reducible refine gate_callee (f := 12) rfl ?_); refine goesL_ (some 13) rfl rfl Tryz.func12 (by kernel_rfl) rfl #[.slice A0 l0.length c0] rfl zL ?_; (with_reducible refine (laws_big.calls _ _ l0 false _ ?side1 ?side2 A2.out).mono ?_); (case side1 => exact zP HR0.out); (case side2 => exact HC0.out); rintro e w' ⟨rfl, ⟨nd, rfl⟩⟩; refine ⟨_, rfl, ?_⟩) | ((with_reducible refine gate_callee (f := 13) rfl ?_); refine goesL_ (some 16) rfl rfl Tryz.func13 (by kernel_rfl) rfl #[.slice A0 l0.length c0] rfl zL ?_; (with_reducible refine (spec_DrawNumbers.calls k _ _ l0 t338 t339 t340 _ ?side1 ?side2 A4.out).mono ?_); (case side1 => exact zP HR0.out); (case side2 => exact HC0.out); rintro e w40 ⟨rfl, hb⟩; refine ⟨_, rfl, ?_⟩; replace HB := Aside0.mk (below_step zB hb); (try clear hb)) | ((with_reducible refine gate_callee (f := 26) rfl ?_); refine goesL_ (some 24) rfl rfl Tryz.func26 (by kernel_rfl) rfl #[.int .u64 (Int.tmod t338 9223372036854775808)] rfl zL ?_; (with_reducible refine (impl_Shortest.calls k (Int.tmod t338 9223372036854775808) t341 t342 _ (hm.below zC) A5.out).mono ?_); rintro e w41 ⟨rfl, hb⟩; refine ⟨_, rfl, ?_⟩; replace HB := Aside0.mk (below_step zB hb); (try clear hb)) | ((with_reducible refine gate_callee (f := 20) rfl ?_); refine goesL_ (some 28) rfl rfl Tryz.func20 (by kernel_rfl) rfl #[.int .u64 (Int.tmod t338 9223372036854775808)] rfl zL ?_; (with_reducible refine (spec_PartsOfNumber.calls k (Int.tmod t338 9223372036854775808) t343 t344 t345 t346 _ A6.out).mono ?_); rintro e w42 ⟨rfl, hb⟩; refine ⟨_, rfl, ?_⟩; replace HB := Aside0.mk (below_step zB hb); (try clear hb)))
    go_ret
    exact ⟨zF, zB⟩

def laws_FnShortest.Pure : Prop := ∀ (l0 : List Int), l0.length ≤ maxLen → l0.length * 1 ≤ 140737488351232 → (∀ x ∈ l0, (Lit.int .u8 x).wf = true) → ∃ k, laws_FnShortest.f k l0 = some true
theorem laws_FnShortest.walk (P : laws_FnShortest.Pure) (a0 : Option Addr) (len0 cap0 : Nat) (z0 : List Int) (w : World) (hm : G.Homey w) (w0 : (a0 = none ∧ len0 = 0 ∧ cap0 = 0 ∧ z0 = []) ∨ ∃ x, a0 = some x ∧ len0 ≤ cap0 ∧ cap0 ≤ maxLen ∧ z0.length = cap0 ∧ (∀ i, i < z0.length → w.cell? (x.add i) = some (.int .u8 (z0.getD i 0))) ∧ ∀ n ∈ z0, (Lit.int .u8 n).wf = true) (y0 : len0 * 1 ≤ 140737488351232) :
  Calls Tryz.prog 11 #[.slice a0 len0 cap0] w fun e w' => e = .returned (.bool true) ∧ Below w.heap.size w w' := by
 obtain ⟨l0, rfl, hr0, hm0, hw0, hc0⟩ := ReadsInt.ofRowC w0
 obtain ⟨k, h⟩ := P l0 hm0 y0 hw0
 refine (laws_FnShortest.calls k _ _ l0 true w hm (Kd.C_of_reads (d := (0 : Int)) (h1 := fun _ => rfl) hr0) hc0 h).mono ?_
 rintro e w' ⟨rfl, hd⟩
 exact ⟨rfl, hd⟩

end
end Go.Proofs.YtkjpelgdppmbjaaGreatDoor.MFnShortest
