-- by this session's own program mp.py over the kit's printer
import Derived.Test.YtkjpelgdppmbjaaGreatDoorSHMFnExactShortestx0
import Derived.Test.YtkjpelgdppmbjaaGreatDoorSHMFnExactShortestx1
import Derived.Test.YtkjpelgdppmbjaaGreatDoorSHMFnExactShortestx3
import Derived.Test.YtkjpelgdppmbjaaGreatDoorSHMFnExactShortestx7
import Derived.Test.YtkjpelgdppmbjaaGreatDoorSHMFnExactShortestx8
namespace Go.Proofs.YtkjpelgdppmbjaaGreatDoor.MFnExactShortest
open Go.RowKit Go.Proofs.YtkjpelgdppmbjaaGreatDoorW.PrintWords Go.Proofs.YtkjpelgdppmbjaaGreatDoorW.PrintLast Go.Proofs.YtkjpelgdppmbjaaGreatDoorW.PrintMore
noncomputable section
attribute [local go_sem] max2_int min2_int max_two min_two max_three min_three max_four min_four
set_option linter.unusedVariables false
set_option linter.unusedSimpArgs false

mutual
def spec_Shortest.l0 : Nat → ByteArray → Int → Int → Int → Option (ByteArray × Int)
 | 0, _, _, _, _ => none
 | k + 1, x4, x5, x6, x7 => if x7 ≤ 17 then (spec_Shortest.j1 k x4 x5 x6 x7 (decide (x7 < (x4.size : Int)))) else (spec_Shortest.j1 k x4 x5 x6 x7 false)
def spec_Shortest.j1 : Nat → ByteArray → Int → Int → Int → Bool → Option (ByteArray × Int)
 | 0, _, _, _, _, _ => none
 | k + 1, x4, x5, x6, x7, x35 => if x35 = true then (if 0 ≤ x7 then (if x7 ≤ (x4.size : Int) then ((spec_GreatAdd.f k (x4.extract 0 (x7 : Int).toNat) (⟨#[49]⟩ : ByteArray)).bind fun bt308 => ((spec_l01Long.f k (wrap64 (((x4.extract (x7 : Int).toNat x4.size).size : Int) - 1)) 48).bind fun t310 => (if 1 + t310.size ≤ 9223372036854775807 then ((spec_Nearest.f k (x4.extract 0 (x7 : Int).toNat) (wrap64 ((wrap64 (x5 + (x4.size : Int))) - x7))).bind fun t311 => ((spec_Nearest.f k bt308.1 (wrap64 ((wrap64 (x5 + (x4.size : Int))) - x7))).bind fun t312 => (if t311 = x6 then (spec_Shortest.j2 k x4 x5 x6 x7 (x4.extract 0 (x7 : Int).toNat) (wrap64 ((wrap64 (x5 + (x4.size : Int))) - x7)) bt308.1 (x4.extract (x7 : Int).toNat x4.size) ((⟨#[53]⟩ : ByteArray) ++ t310) (t311 == x6) (t312 == x6) false) else (spec_Shortest.j2 k x4 x5 x6 x7 (x4.extract 0 (x7 : Int).toNat) (wrap64 ((wrap64 (x5 + (x4.size : Int))) - x7)) bt308.1 (x4.extract (x7 : Int).toNat x4.size) ((⟨#[53]⟩ : ByteArray) ++ t310) (t311 == x6) (t312 == x6) (!(t312 == x6)))))) else (none)))) else (none)) else (none)) else (some (x4, x5))
def spec_Shortest.j2 : Nat → ByteArray → Int → Int → Int → ByteArray → Int → ByteArray → ByteArray → ByteArray → Bool → Bool → Bool → Option (ByteArray × Int)
 | 0, _, _, _, _, _, _, _, _, _, _, _, _ => none
 | k + 1, x4, x5, x6, x7, x8, x9, x10, x12, x13, x14, x15, x75 => if x75 = true then (spec_Shortest.l0 k x4 x5 x6 (wrap64 (x7 + 1))) else (if 0 ≤ (wrap64 (x7 - 1)) then (if (wrap64 (x7 - 1)) < (x8.size : Int) then (if x14 = true then (if x15 = true then (if (Op.bytesLess x13.toList x12.toList) = true then ((spec_l07Ahead.f k x10 x9).bind fun bt313 => (some (bt313.1, bt313.2))) else (if x12.toList = x13.toList then (if (((((bt x8 (wrap64 (x7 - 1))) - 48) % 256) % 2) = 0) then ((spec_l07Ahead.f k x8 x9).bind fun bt315 => (some (bt315.1, bt315.2))) else ((spec_l07Ahead.f k x10 x9).bind fun bt317 => (some (bt317.1, bt317.2)))) else ((spec_l07Ahead.f k x8 x9).bind fun bt319 => (some (bt319.1, bt319.2))))) else ((spec_l07Ahead.f k x8 x9).bind fun bt321 => (some (bt321.1, bt321.2)))) else ((spec_l07Ahead.f k x10 x9).bind fun bt323 => (some (bt323.1, bt323.2)))) else (none)) else (none))
end
def spec_Shortest.f (k : Nat) (a0 : Int) : Option (ByteArray × Int) := (spec_Exact.f k a0).bind fun bt305 => (if bt305.1.toList = ([] : List UInt8) then (some ((⟨#[]⟩ : ByteArray), 0)) else ((spec_l03Pow.f k 63).bind fun t307 => (if t307 = 0 then (none) else (spec_Shortest.l0 k bt305.1 bt305.2 (Int.tmod a0 t307) 1))))
theorem spec_Shortest.mono_l : ∀ k, (∀ y0 y1 y2 y3, LeO (spec_Shortest.l0 k y0 y1 y2 y3) (spec_Shortest.l0 (k + 1) y0 y1 y2 y3)) ∧ (∀ y0 y1 y2 y3 y4, LeO (spec_Shortest.j1 k y0 y1 y2 y3 y4) (spec_Shortest.j1 (k + 1) y0 y1 y2 y3 y4)) ∧ (∀ y0 y1 y2 y3 y4 y5 y6 y7 y8 y9 y10 y11, LeO (spec_Shortest.j2 k y0 y1 y2 y3 y4 y5 y6 y7 y8 y9 y10 y11) (spec_Shortest.j2 (k + 1) y0 y1 y2 y3 y4 y5 y6 y7 y8 y9 y10 y11))
  | 0 => ⟨fun _ _ _ _ r h => by simp [spec_Shortest.l0] at h, fun _ _ _ _ _ r h => by simp [spec_Shortest.j1] at h, fun _ _ _ _ _ _ _ _ _ _ _ _ r h => by simp [spec_Shortest.j2] at h⟩
  | k + 1 => by
    obtain ⟨ih0, ih1, ih2⟩ := spec_Shortest.mono_l k
    refine ⟨?_, ?_, ?_⟩
    · intro y0 y1 y2 y3
      unfold spec_Shortest.l0
      repeat' first
      | (with_reducible exact ih0 _ _ _ _)
      | (with_reducible exact ih1 _ _ _ _ _)
      | (with_reducible exact ih2 _ _ _ _ _ _ _ _ _ _ _ _)
      | (with_reducible exact spec_Exact.mono _ _)
      | (with_reducible exact spec_GreatAdd.mono _ _ _)
      | (with_reducible exact spec_Nearest.mono _ _ _)
      | (with_reducible exact spec_l01Long.mono _ _ _)
      | (with_reducible exact spec_l03Pow.mono _ _)
      | (with_reducible exact spec_l07Ahead.mono _ _ _)
      | (with_reducible exact LeO.refl _)
      | (with_reducible exact LeO.none _)
      | (with_reducible refine LeO.ite ?_ ?_)
      | (with_reducible refine LeO.bind ?_ (fun _ => ?_))
    · intro y0 y1 y2 y3 y4
      unfold spec_Shortest.j1
      repeat' first
      | (with_reducible exact ih0 _ _ _ _)
      | (with_reducible exact ih1 _ _ _ _ _)
      | (with_reducible exact ih2 _ _ _ _ _ _ _ _ _ _ _ _)
      | (with_reducible exact spec_Exact.mono _ _)
      | (with_reducible exact spec_GreatAdd.mono _ _ _)
      | (with_reducible exact spec_Nearest.mono _ _ _)
      | (with_reducible exact spec_l01Long.mono _ _ _)
      | (with_reducible exact spec_l03Pow.mono _ _)
      | (with_reducible exact spec_l07Ahead.mono _ _ _)
      | (with_reducible exact LeO.refl _)
      | (with_reducible exact LeO.none _)
      | (with_reducible refine LeO.ite ?_ ?_)
      | (with_reducible refine LeO.bind ?_ (fun _ => ?_))
    · intro y0 y1 y2 y3 y4 y5 y6 y7 y8 y9 y10 y11
      unfold spec_Shortest.j2
      repeat' first
      | (with_reducible exact ih0 _ _ _ _)
      | (with_reducible exact ih1 _ _ _ _ _)
      | (with_reducible exact ih2 _ _ _ _ _ _ _ _ _ _ _ _)
      | (with_reducible exact spec_Exact.mono _ _)
      | (with_reducible exact spec_GreatAdd.mono _ _ _)
      | (with_reducible exact spec_Nearest.mono _ _ _)
      | (with_reducible exact spec_l01Long.mono _ _ _)
      | (with_reducible exact spec_l03Pow.mono _ _)
      | (with_reducible exact spec_l07Ahead.mono _ _ _)
      | (with_reducible exact LeO.refl _)
      | (with_reducible exact LeO.none _)
      | (with_reducible refine LeO.ite ?_ ?_)
      | (with_reducible refine LeO.bind ?_ (fun _ => ?_))
theorem spec_Shortest.mono : ∀ a0 k, LeO (spec_Shortest.f k a0) (spec_Shortest.f (k + 1) a0) := by
 intro a0 k
 obtain ⟨ih0, ih1, ih2⟩ := spec_Shortest.mono_l k
 unfold spec_Shortest.f
 repeat' first
   | (with_reducible exact ih0 _ _ _ _)
   | (with_reducible exact ih1 _ _ _ _ _)
   | (with_reducible exact ih2 _ _ _ _ _ _ _ _ _ _ _ _)
   | (with_reducible exact spec_Exact.mono _ _)
   | (with_reducible exact spec_GreatAdd.mono _ _ _)
   | (with_reducible exact spec_Nearest.mono _ _ _)
   | (with_reducible exact spec_l01Long.mono _ _ _)
   | (with_reducible exact spec_l03Pow.mono _ _)
   | (with_reducible exact spec_l07Ahead.mono _ _ _)
   | (with_reducible exact LeO.refl _)
   | (with_reducible exact LeO.none _)
   | (with_reducible refine LeO.ite ?_ ?_)
   | (with_reducible refine LeO.bind ?_ (fun _ => ?_))
theorem bytesLess_swap : ∀ a b : List UInt8, (Op.bytesLess a b || a == b) = !(Op.bytesLess b a)
  | [], [] => rfl
  | [], _ :: _ => rfl
  | _ :: _, [] => rfl
  | x :: a, y :: b => by
    have ih := bytesLess_swap a b
    unfold Op.bytesLess
    by_cases h : x = y
    · subst h
      have : ¬ x < x := UInt8.lt_irrefl x
      simp [this, ih]
    · have h2 : ¬ y = x := fun e => h e.symm
      rcases UInt8.lt_or_lt_of_ne h with h3 | h3
      · have h4 : ¬ y < x := UInt8.lt_asymm h3
        simp [h2, h3, h4]
      · have h4 : ¬ x < y := UInt8.lt_asymm h3
        simp [h, h3, h4]
theorem binOp_gtr_swap (t : TypeId) (a b : ByteArray) : binOp .gtr t (.string a) (.string b) = pure (.bool (Op.bytesLess b.toList a.toList)) := by
 rw [binOp_string_gtr, bytesLess_swap, Bool.not_not]
attribute [-go_sem] binOp_string_gtr
attribute [local go_sem] binOp_gtr_swap
set_option maxHeartbeats 8000000 in
set_option maxRecDepth 100000 in
theorem spec_Shortest.calls (k : Nat) (a0 : Int) (r1 : ByteArray) (r2 : Int) (w : World) (h : spec_Shortest.f k a0 = some (r1, r2)) :
  Calls Tryz.prog 25 #[.int .u64 a0] w fun e w' => e = .returned (.tuple #[.string r1, .int .i64 r2]) ∧ Below w.heap.size w w' := by
 have HB := Aside0.mk (Below.refl w.heap.size w)
 have H : ((spec_Exact.f k a0).bind fun bt305 => (if bt305.1.toList = ([] : List UInt8) then (some ((⟨#[]⟩ : ByteArray), 0)) else ((spec_l03Pow.f k 63).bind fun t307 => (if t307 = 0 then (none) else (spec_Shortest.l0 k bt305.1 bt305.2 (Int.tmod a0 t307) 1))))) = some (r1, r2) := h
 clear h
 replace H := Option.bind_eq_some_iff.mp H
 obtain ⟨⟨t305, t306⟩, A20, H⟩ := H
 replace H : (if t305.toList = ([] : List UInt8) then (some ((⟨#[]⟩ : ByteArray), 0)) else ((spec_l03Pow.f k 63).bind fun t307 => (if t307 = 0 then (none) else (spec_Shortest.l0 k t305 t306 (Int.tmod a0 t307) 1)))) = some (r1, r2) := H
 have A2 := Aside0.mk A20
 clear A20
 by_cases c3 : t305.toList = ([] : List UInt8)
 ·rw [if_pos c3] at H
  have c3b0 : (t305.toList == ([] : List UInt8)) = true := beq_iff_eq.mpr c3
  have c3b1 : (t305.toList != ([] : List UInt8)) = false := bne_eq_false_iff_eq.mpr c3
  clear c3
  simp only [Option.some.injEq, Prod.mk.injEq] at H
  obtain ⟨rfl, rfl⟩ := H
  go_enter Tryz.func25, Tryz.ntmps25
  go_wp2_with (first | ((with_reducible refine gate_callee (f := 14) rfl ?_); refine goesL_ (some 20) rfl rfl Tryz.func14 (by kernel_rfl) rfl #[.int .u64 a0] rfl (by (try simp only [List.map_toArray, List.map_cons, List.map_nil]) <;> rfl) ?_; (with_reducible refine (spec_Exact.calls k a0 t305 t306 _ A2.out).mono ?_); rintro e w4 ⟨rfl, hb⟩; refine ⟨_, rfl, ?_⟩; have n0_ := Aside0.mk (below_step (by repeat (first | exact HB.out | apply below_alloc | apply pw_below_drewN | apply below_drew1)) hb); clear HB; have HB := n0_; clear n0_; (try clear hb)))
  go_ret2
  exact ⟨by first | rfl | (simp [errW_none, errW_some] <;> rfl) | (simp [*, errW_none, errW_some] <;> rfl), by repeat (first | (with_reducible first | exact HB.out | apply below_alloc | apply pw_below_drewN | apply below_drew1) | exact HB.out)⟩
 ·rw [if_neg c3] at H
  have c3b0 : (t305.toList == ([] : List UInt8)) = false := beq_eq_false_iff_ne.mpr c3
  have c3b1 : (t305.toList != ([] : List UInt8)) = true := bne_iff_ne.mpr c3
  replace H := Option.bind_eq_some_iff.mp H
  obtain ⟨t307, A50, H⟩ := H
  replace H : (if t307 = 0 then (none) else (spec_Shortest.l0 k t305 t306 (Int.tmod a0 t307) 1)) = some (r1, r2) := H
  have A5 := Aside0.mk A50
  clear A50
  by_cases c6 : t307 = 0
  ·rw [if_pos c6] at H
   exact absurd H (by simp)
  ·rw [if_neg c6] at H
   have c6b0 : (t307 == 0) = false := beq_eq_false_iff_ne.mpr c6
   have c6b1 : (t307 != 0) = true := bne_iff_ne.mpr c6
   have H' := Aside0.mk H
   clear H
   go_enter Tryz.func25, Tryz.ntmps25
   go_wp2_with (first | ((with_reducible refine gate_callee (f := 14) rfl ?_); refine goesL_ (some 20) rfl rfl Tryz.func14 (by kernel_rfl) rfl #[.int .u64 a0] rfl (by (try simp only [List.map_toArray, List.map_cons, List.map_nil]) <;> rfl) ?_; (with_reducible refine (spec_Exact.calls k a0 t305 t306 _ A2.out).mono ?_); rintro e w7 ⟨rfl, hb⟩; refine ⟨_, rfl, ?_⟩; have n0_ := Aside0.mk (below_step (by repeat (first | exact HB.out | apply below_alloc | apply pw_below_drewN | apply below_drew1)) hb); clear HB; have HB := n0_; clear n0_; (try clear hb)) | ((with_reducible refine gate_callee (f := 60) rfl ?_); refine goesL_ (some 26) rfl rfl Tryz.func60 (by kernel_rfl) rfl #[.int .i64 63] rfl (by (try simp only [List.map_toArray, List.map_cons, List.map_nil]) <;> rfl) ?_; (with_reducible refine (spec_l03Pow.calls k 63 t307 _ A5.out).mono ?_); rintro e w' ⟨rfl, ⟨nd, rfl⟩⟩; refine ⟨_, rfl, ?_⟩))
   go_loopg [7] k (fun kq v7 w' => ∃ (x7_1 : Int), v7 = .int .i64 x7_1 ∧ Aside0 (spec_Shortest.l0 kq t305 t306 (Int.tmod a0 t307) x7_1 = some (r1, r2)) ∧ Aside0 (kq ≤ k) ∧ Aside0 (Below w.heap.size w w'))
   case atStart => exact ⟨(1), (by first | rfl | (simp; done) | (simp [*]; done)), H', ⟨Nat.le_refl _⟩, ⟨by repeat (first | (with_reducible first | exact HB.out | apply below_alloc | apply pw_below_drewN | apply below_drew1) | exact HB.out)⟩⟩
   case round =>
    clear H'
    try clear c1
    try clear c2
    try clear p2
    try clear c3
    try clear c3b0
    try clear c3b1
    try clear c6
    try clear c6b0
    try clear c6b1
    obtain ⟨x7_1, rfl, HA, HK1, HB⟩ := hrel
    cases gk with
    | zero => exact absurd HA.out (by simp [spec_Shortest.l0])
    | succ k1 =>
     have H := HA.out
     clear HA
     simp only [spec_Shortest.l0] at H
     have HC8 := Aside0.mk H
     clear H
     go_upto_region 6 with (fail)
     go_cut [35] (fun v35 wc => ∃ (kq : Nat) (x35_7 : Bool), v35 = .bool x35_7 ∧ Aside0 (spec_Shortest.j1 kq t305 t306 (Int.tmod a0 t307) x7_1 x35_7 = some (r1, r2)) ∧ Aside0 (kq ≤ k1) ∧ Aside0 (Below w.heap.size w wc))
     case first =>
      have H := HC8.out
      clear HC8
      by_cases c9 : x7_1 ≤ 17
      ·rw [if_pos c9] at H
       have c9b0 : decide (x7_1 ≤ 17) = true := decide_eq_true c9
       clear c9
       (first | rw [c9b0] | (simp only [i64_w, i32_w]; rw [c9b0]) | skip)
       have H' := Aside0.mk H
       clear H
       go_wp2
       go_meet
       case rel => exact ⟨_, (decide (x7_1 < (t305.size : Int))), (by first | rfl | (simp; done) | (simp [*]; done)), H', ⟨by have := HK1.out; first | omega | exact Nat.le_refl _⟩, ⟨by repeat (first | (with_reducible first | exact HB.out | apply below_alloc | apply pw_below_drewN | apply below_drew1) | exact HB.out)⟩⟩
      ·rw [if_neg c9] at H
       have c9b0 : decide (x7_1 ≤ 17) = false := decide_eq_false c9
       clear c9
       (first | rw [c9b0] | (simp only [i64_w, i32_w]; rw [c9b0]) | skip)
       have H' := Aside0.mk H
       clear H
       go_wp2
       go_meet
       case rel => exact ⟨_, (false), (by first | rfl | (simp; done) | (simp [*]; done)), H', ⟨by have := HK1.out; first | omega | exact Nat.le_refl _⟩, ⟨by repeat (first | (with_reducible first | exact HB.out | apply below_alloc | apply pw_below_drewN | apply below_drew1) | exact HB.out)⟩⟩
     case rest =>
      clear HC8
      try clear c1
      try clear c2
      try clear p2
      try clear c3
      try clear c3b0
      try clear c3b1
      try clear c6
      try clear c6b0
      try clear c6b1
      try clear c9
      try clear c9b0
      try clear p2
      obtain ⟨kq, x35_7, rfl, HA, HJ7, HB⟩ := hcut
      cases kq with
      | zero => exact absurd HA.out (by simp [spec_Shortest.j1])
      | succ kj7 =>
       have H := HA.out
       clear HA
       simp only [spec_Shortest.j1] at H
       by_cases c10 : x35_7 = true
       ·subst c10
        have H1 : (if 0 ≤ x7_1 then (if x7_1 ≤ (t305.size : Int) then ((spec_GreatAdd.f kj7 (t305.extract 0 (x7_1 : Int).toNat) (⟨#[49]⟩ : ByteArray)).bind fun bt308 => ((spec_l01Long.f kj7 (wrap64 (((t305.extract (x7_1 : Int).toNat t305.size).size : Int) - 1)) 48).bind fun t310 => (if 1 + t310.size ≤ 9223372036854775807 then ((spec_Nearest.f kj7 (t305.extract 0 (x7_1 : Int).toNat) (wrap64 ((wrap64 (t306 + (t305.size : Int))) - x7_1))).bind fun t311 => ((spec_Nearest.f kj7 bt308.1 (wrap64 ((wrap64 (t306 + (t305.size : Int))) - x7_1))).bind fun t312 => (if t311 = (Int.tmod a0 t307) then (spec_Shortest.j2 kj7 t305 t306 (Int.tmod a0 t307) x7_1 (t305.extract 0 (x7_1 : Int).toNat) (wrap64 ((wrap64 (t306 + (t305.size : Int))) - x7_1)) bt308.1 (t305.extract (x7_1 : Int).toNat t305.size) ((⟨#[53]⟩ : ByteArray) ++ t310) (t311 == (Int.tmod a0 t307)) (t312 == (Int.tmod a0 t307)) false) else (spec_Shortest.j2 kj7 t305 t306 (Int.tmod a0 t307) x7_1 (t305.extract 0 (x7_1 : Int).toNat) (wrap64 ((wrap64 (t306 + (t305.size : Int))) - x7_1)) bt308.1 (t305.extract (x7_1 : Int).toNat t305.size) ((⟨#[53]⟩ : ByteArray) ++ t310) (t311 == (Int.tmod a0 t307)) (t312 == (Int.tmod a0 t307)) (!(t312 == (Int.tmod a0 t307))))))) else (none)))) else (none)) else (none)) = some (r1, r2) := by rw [if_pos rfl] at H; exact H
        clear H
        have H := H1
        clear H1
        by_cases c11 : 0 ≤ x7_1
        ·rw [if_pos c11] at H
         have c11b0 := eq_true c11
         have c11b1 : decide (0 ≤ x7_1) = true := decide_eq_true c11
         clear c11
         by_cases c12 : x7_1 ≤ (t305.size : Int)
         ·rw [if_pos c12] at H
          have c12b0 := eq_true c12
          have c12b1 : decide (x7_1 ≤ (t305.size : Int)) = true := decide_eq_true c12
          clear c12
          replace H := Option.bind_eq_some_iff.mp H
          obtain ⟨⟨t308, t309⟩, A130, H⟩ := H
          replace H : ((spec_l01Long.f kj7 (wrap64 (((t305.extract (x7_1 : Int).toNat t305.size).size : Int) - 1)) 48).bind fun t310 => (if 1 + t310.size ≤ 9223372036854775807 then ((spec_Nearest.f kj7 (t305.extract 0 (x7_1 : Int).toNat) (wrap64 ((wrap64 (t306 + (t305.size : Int))) - x7_1))).bind fun t311 => ((spec_Nearest.f kj7 t308 (wrap64 ((wrap64 (t306 + (t305.size : Int))) - x7_1))).bind fun t312 => (if t311 = (Int.tmod a0 t307) then (spec_Shortest.j2 kj7 t305 t306 (Int.tmod a0 t307) x7_1 (t305.extract 0 (x7_1 : Int).toNat) (wrap64 ((wrap64 (t306 + (t305.size : Int))) - x7_1)) t308 (t305.extract (x7_1 : Int).toNat t305.size) ((⟨#[53]⟩ : ByteArray) ++ t310) (t311 == (Int.tmod a0 t307)) (t312 == (Int.tmod a0 t307)) false) else (spec_Shortest.j2 kj7 t305 t306 (Int.tmod a0 t307) x7_1 (t305.extract 0 (x7_1 : Int).toNat) (wrap64 ((wrap64 (t306 + (t305.size : Int))) - x7_1)) t308 (t305.extract (x7_1 : Int).toNat t305.size) ((⟨#[53]⟩ : ByteArray) ++ t310) (t311 == (Int.tmod a0 t307)) (t312 == (Int.tmod a0 t307)) (!(t312 == (Int.tmod a0 t307))))))) else (none))) = some (r1, r2) := H
          have A13 := Aside0.mk A130
          clear A130
          have c14b0 := eq_true (of_decide_eq_true (by first | (with_reducible assumption) | assumption) : 0 ≤ x7_1)
          have c15b0 := eq_true (of_decide_eq_true (by first | (with_reducible assumption) | assumption) : x7_1 ≤ (t305.size : Int))
          replace H := Option.bind_eq_some_iff.mp H
          obtain ⟨t310, A160, H⟩ := H
          replace H : (if 1 + t310.size ≤ 9223372036854775807 then ((spec_Nearest.f kj7 (t305.extract 0 (x7_1 : Int).toNat) (wrap64 ((wrap64 (t306 + (t305.size : Int))) - x7_1))).bind fun t311 => ((spec_Nearest.f kj7 t308 (wrap64 ((wrap64 (t306 + (t305.size : Int))) - x7_1))).bind fun t312 => (if t311 = (Int.tmod a0 t307) then (spec_Shortest.j2 kj7 t305 t306 (Int.tmod a0 t307) x7_1 (t305.extract 0 (x7_1 : Int).toNat) (wrap64 ((wrap64 (t306 + (t305.size : Int))) - x7_1)) t308 (t305.extract (x7_1 : Int).toNat t305.size) ((⟨#[53]⟩ : ByteArray) ++ t310) (t311 == (Int.tmod a0 t307)) (t312 == (Int.tmod a0 t307)) false) else (spec_Shortest.j2 kj7 t305 t306 (Int.tmod a0 t307) x7_1 (t305.extract 0 (x7_1 : Int).toNat) (wrap64 ((wrap64 (t306 + (t305.size : Int))) - x7_1)) t308 (t305.extract (x7_1 : Int).toNat t305.size) ((⟨#[53]⟩ : ByteArray) ++ t310) (t311 == (Int.tmod a0 t307)) (t312 == (Int.tmod a0 t307)) (!(t312 == (Int.tmod a0 t307))))))) else (none)) = some (r1, r2) := H
          have A16 := Aside0.mk A160
          clear A160
          by_cases c17 : 1 + t310.size ≤ 9223372036854775807
          ·rw [if_pos c17] at H
           have c17b0 := eq_true c17
           have c17b1 : decide (1 + t310.size ≤ 9223372036854775807) = true := decide_eq_true c17
           try have c17b2 : (9223372036854775807 < 1 + t310.size) = False := eq_false (Nat.not_lt.2 c17)
           replace H := Option.bind_eq_some_iff.mp H
           obtain ⟨t311, A180, H⟩ := H
           replace H : ((spec_Nearest.f kj7 t308 (wrap64 ((wrap64 (t306 + (t305.size : Int))) - x7_1))).bind fun t312 => (if t311 = (Int.tmod a0 t307) then (spec_Shortest.j2 kj7 t305 t306 (Int.tmod a0 t307) x7_1 (t305.extract 0 (x7_1 : Int).toNat) (wrap64 ((wrap64 (t306 + (t305.size : Int))) - x7_1)) t308 (t305.extract (x7_1 : Int).toNat t305.size) ((⟨#[53]⟩ : ByteArray) ++ t310) (t311 == (Int.tmod a0 t307)) (t312 == (Int.tmod a0 t307)) false) else (spec_Shortest.j2 kj7 t305 t306 (Int.tmod a0 t307) x7_1 (t305.extract 0 (x7_1 : Int).toNat) (wrap64 ((wrap64 (t306 + (t305.size : Int))) - x7_1)) t308 (t305.extract (x7_1 : Int).toNat t305.size) ((⟨#[53]⟩ : ByteArray) ++ t310) (t311 == (Int.tmod a0 t307)) (t312 == (Int.tmod a0 t307)) (!(t312 == (Int.tmod a0 t307)))))) = some (r1, r2) := H
           have A18 := Aside0.mk A180
           clear A180
           replace H := Option.bind_eq_some_iff.mp H
           obtain ⟨t312, A190, H⟩ := H
           replace H : (if t311 = (Int.tmod a0 t307) then (spec_Shortest.j2 kj7 t305 t306 (Int.tmod a0 t307) x7_1 (t305.extract 0 (x7_1 : Int).toNat) (wrap64 ((wrap64 (t306 + (t305.size : Int))) - x7_1)) t308 (t305.extract (x7_1 : Int).toNat t305.size) ((⟨#[53]⟩ : ByteArray) ++ t310) (t311 == (Int.tmod a0 t307)) (t312 == (Int.tmod a0 t307)) false) else (spec_Shortest.j2 kj7 t305 t306 (Int.tmod a0 t307) x7_1 (t305.extract 0 (x7_1 : Int).toNat) (wrap64 ((wrap64 (t306 + (t305.size : Int))) - x7_1)) t308 (t305.extract (x7_1 : Int).toNat t305.size) ((⟨#[53]⟩ : ByteArray) ++ t310) (t311 == (Int.tmod a0 t307)) (t312 == (Int.tmod a0 t307)) (!(t312 == (Int.tmod a0 t307))))) = some (r1, r2) := H
           have A19 := Aside0.mk A190
           clear A190
           have HC20 := Aside0.mk H
           clear H
           go_upto_region 15 with (first | ((with_reducible refine gate_callee (f := 17) rfl ?_); refine goesL_ (some 49) rfl rfl Tryz.func17 (by kernel_rfl) rfl #[.string (t305.extract 0 (x7_1 : Int).toNat), .string (⟨#[49]⟩ : ByteArray)] rfl (by (try simp only [List.map_toArray, List.map_cons, List.map_nil]) <;> rfl) ?_; (with_reducible refine (spec_GreatAdd.calls kj7 (t305.extract 0 (x7_1 : Int).toNat) (⟨#[49]⟩ : ByteArray) t308 t309 _ A13.out).mono ?_); rintro e w21 ⟨rfl, hb⟩; refine ⟨_, rfl, ?_⟩; have n0_ := Aside0.mk (below_step (by repeat (first | exact HB.out | apply below_alloc | apply pw_below_drewN | apply below_drew1)) hb); clear HB; have HB := n0_; clear n0_; (try clear hb)) | ((try rw [show t305.size - (x7_1 : Int).toNat = (t305.extract (x7_1 : Int).toNat t305.size).size from (by simp)]); (with_reducible refine gate_callee (f := 62) rfl ?_); refine goesL_ (some 58) rfl rfl Tryz.func62 (by kernel_rfl) rfl #[.int .i64 (wrap64 (((t305.extract (x7_1 : Int).toNat t305.size).size : Int) - 1)), .int .u8 48] rfl (by (try simp only [List.map_toArray, List.map_cons, List.map_nil]) <;> rfl) ?_; (with_reducible refine (spec_l01Long.calls kj7 (wrap64 (((t305.extract (x7_1 : Int).toNat t305.size).size : Int) - 1)) 48 t310 _ A16.out).mono ?_); rintro e w22 ⟨rfl, hb⟩; refine ⟨_, rfl, ?_⟩; have n0_ := Aside0.mk (below_step (by repeat (first | exact HB.out | apply below_alloc | apply pw_below_drewN | apply below_drew1)) hb); clear HB; have HB := n0_; clear n0_; (try clear hb)) | ((with_reducible refine gate_callee (f := 16) rfl ?_); refine goesL_ (some 62) rfl rfl Tryz.func16 (by kernel_rfl) rfl #[.string (t305.extract 0 (x7_1 : Int).toNat), .int .i64 (wrap64 ((wrap64 (t306 + (t305.size : Int))) - x7_1))] rfl (by (try simp only [List.map_toArray, List.map_cons, List.map_nil]) <;> rfl) ?_; (with_reducible refine (spec_Nearest.calls kj7 (t305.extract 0 (x7_1 : Int).toNat) (wrap64 ((wrap64 (t306 + (t305.size : Int))) - x7_1)) t311 _ A18.out).mono ?_); rintro e w23 ⟨rfl, hb⟩; refine ⟨_, rfl, ?_⟩; have n0_ := Aside0.mk (below_step (by repeat (first | exact HB.out | apply below_alloc | apply pw_below_drewN | apply below_drew1)) hb); clear HB; have HB := n0_; clear n0_; (try clear hb)) | ((with_reducible refine gate_callee (f := 16) rfl ?_); refine goesL_ (some 67) rfl rfl Tryz.func16 (by kernel_rfl) rfl #[.string t308, .int .i64 (wrap64 ((wrap64 (t306 + (t305.size : Int))) - x7_1))] rfl (by (try simp only [List.map_toArray, List.map_cons, List.map_nil]) <;> rfl) ?_; (with_reducible refine (spec_Nearest.calls kj7 t308 (wrap64 ((wrap64 (t306 + (t305.size : Int))) - x7_1)) t312 _ A19.out).mono ?_); rintro e w24 ⟨rfl, hb⟩; refine ⟨_, rfl, ?_⟩; have n0_ := Aside0.mk (below_step (by repeat (first | exact HB.out | apply below_alloc | apply pw_below_drewN | apply below_drew1)) hb); clear HB; have HB := n0_; clear n0_; (try clear hb)))
           (try simp only [Act.put, List.setIfInBounds_toArray, List.set_cons_zero, List.set_cons_succ])
           go_cut [14, 75] (fun v14 v75 wc => ∃ (kq : Nat) (x75_19 : Bool), v14 = .bool (t311 == (Int.tmod a0 t307)) ∧ v75 = .bool x75_19 ∧ Aside0 (spec_Shortest.j2 kq t305 t306 (Int.tmod a0 t307) x7_1 (t305.extract 0 (x7_1 : Int).toNat) (wrap64 ((wrap64 (t306 + (t305.size : Int))) - x7_1)) t308 (t305.extract (x7_1 : Int).toNat t305.size) ((⟨#[53]⟩ : ByteArray) ++ t310) (t311 == (Int.tmod a0 t307)) (t312 == (Int.tmod a0 t307)) x75_19 = some (r1, r2)) ∧ Aside0 (kq ≤ kj7) ∧ Aside0 (Below w.heap.size w wc))
           case first =>
            have H := HC20.out
            clear HC20
            by_cases c25 : t311 = (Int.tmod a0 t307)
            ·rw [if_pos c25] at H
             have c25b0 : (t311 == (Int.tmod a0 t307)) = true := beq_iff_eq.mpr c25
             have c25b1 : (t311 != (Int.tmod a0 t307)) = false := bne_eq_false_iff_eq.mpr c25
             clear c25
             (first | rw [c25b0] | (simp only [i64_w, i32_w]; rw [c25b0]) | skip)
             have H' := Aside0.mk H
             clear H
             go_wp2
             go_meet
             case rel => exact ⟨_, (false), (by first | rfl | (simp [*]; done)), (by first | rfl | (simp; done) | (simp [*]; done)), H', ⟨by have := HK1.out; have := HJ7.out; first | omega | exact Nat.le_refl _⟩, ⟨by repeat (first | (with_reducible first | exact HB.out | apply below_alloc | apply pw_below_drewN | apply below_drew1) | exact HB.out)⟩⟩
            ·rw [if_neg c25] at H
             have c25b0 : (t311 == (Int.tmod a0 t307)) = false := beq_eq_false_iff_ne.mpr c25
             have c25b1 : (t311 != (Int.tmod a0 t307)) = true := bne_iff_ne.mpr c25
             (first | rw [c25b0] | (simp only [i64_w, i32_w]; rw [c25b0]) | skip)
             have H' := Aside0.mk H
             clear H
             go_wp2
             go_meet
             case rel => exact ⟨_, (!(t312 == (Int.tmod a0 t307))), (by first | rfl | (simp [*]; done)), (by first | rfl | (simp; done) | (simp [*]; done)), H', ⟨by have := HK1.out; have := HJ7.out; first | omega | exact Nat.le_refl _⟩, ⟨by repeat (first | (with_reducible first | exact HB.out | apply below_alloc | apply pw_below_drewN | apply below_drew1) | exact HB.out)⟩⟩
           case rest =>
            clear HC20
            try clear c1
            try clear c2
            try clear p2
            try clear c3
            try clear c3b0
            try clear c3b1
            try clear c6
            try clear c6b0
            try clear c6b1
            try clear p6
            try clear c9
            try clear c9b0
            try clear c10
            try clear c11
            try clear c11b0
            try clear c11b1
            try clear c12
            try clear c12b0
            try clear c12b1
            try clear c14
            try clear c14b0
            try clear c15
            try clear c15b0
            try clear c16
            try clear c17
            try clear c17b0
            try clear c17b1
            try clear c17b2
            try clear c25
            try clear c25b0
            try clear c25b1
            try clear p2
            obtain ⟨kq, x75_19, rfl, rfl, HA, HJ19, HB⟩ := hcut
            cases kq with
            | zero => exact absurd HA.out (by simp [spec_Shortest.j2])
            | succ kj19 =>
             have H := HA.out
             clear HA
             simp only [spec_Shortest.j2] at H
             generalize hh13 : ((⟨#[53]⟩ : ByteArray) ++ t310) = h13 at H ⊢
             generalize hr12 : (t305.extract (x7_1 : Int).toNat t305.size) = r12 at H ⊢
             generalize hl8 : (t305.extract 0 (x7_1 : Int).toNat) = l8 at H ⊢
             by_cases c26 : x75_19 = true
             ·subst c26
              have H1 : (spec_Shortest.l0 kj19 t305 t306 (Int.tmod a0 t307) (wrap64 (x7_1 + 1))) = some (r1, r2) := by rw [if_pos rfl] at H; exact H
              clear H
              have H := H1
              clear H1
              have H' := Aside0.mk H
              clear H
              go_wp2
              go_roundg kj19
              case measure => have := HK1.out; have := HJ7.out; have := HJ19.out; omega
              case rel => exact ⟨(wrap64 (x7_1 + 1)), (by first | rfl | (simp; done) | (simp [*]; done)), H', ⟨by have := HK1.out; have := HJ7.out; have := HJ19.out; omega⟩, ⟨by repeat (first | (with_reducible first | exact HB.out | apply below_alloc | apply pw_below_drewN | apply below_drew1) | exact HB.out)⟩⟩
             ·replace c26 := Bool.eq_false_iff.mpr c26
              subst c26
              have H1 : (if 0 ≤ (wrap64 (x7_1 - 1)) then (if (wrap64 (x7_1 - 1)) < (l8.size : Int) then (if (t311 == (Int.tmod a0 t307)) = true then (if (t312 == (Int.tmod a0 t307)) = true then (if (Op.bytesLess h13.toList r12.toList) = true then ((spec_l07Ahead.f kj19 t308 (wrap64 ((wrap64 (t306 + (t305.size : Int))) - x7_1))).bind fun bt313 => (some (bt313.1, bt313.2))) else (if r12.toList = h13.toList then (if (((((bt l8 (wrap64 (x7_1 - 1))) - 48) % 256) % 2) = 0) then ((spec_l07Ahead.f kj19 l8 (wrap64 ((wrap64 (t306 + (t305.size : Int))) - x7_1))).bind fun bt315 => (some (bt315.1, bt315.2))) else ((spec_l07Ahead.f kj19 t308 (wrap64 ((wrap64 (t306 + (t305.size : Int))) - x7_1))).bind fun bt317 => (some (bt317.1, bt317.2)))) else ((spec_l07Ahead.f kj19 l8 (wrap64 ((wrap64 (t306 + (t305.size : Int))) - x7_1))).bind fun bt319 => (some (bt319.1, bt319.2))))) else ((spec_l07Ahead.f kj19 l8 (wrap64 ((wrap64 (t306 + (t305.size : Int))) - x7_1))).bind fun bt321 => (some (bt321.1, bt321.2)))) else ((spec_l07Ahead.f kj19 t308 (wrap64 ((wrap64 (t306 + (t305.size : Int))) - x7_1))).bind fun bt323 => (some (bt323.1, bt323.2)))) else (none)) else (none)) = some (r1, r2) := by rw [if_neg (show ¬ (false = true) by decide)] at H; exact H
              clear H
              have H := H1
              clear H1
              obtain ⟨ji27, hji27⟩ : ∃ j_ : Int, (wrap64 (x7_1 - 1)) = j_ := ⟨_, rfl⟩
              replace H : (if 0 ≤ (ji27) then (if (ji27) < (l8.size : Int) then (if (t311 == (Int.tmod a0 t307)) = true then (if (t312 == (Int.tmod a0 t307)) = true then (if (Op.bytesLess h13.toList r12.toList) = true then ((spec_l07Ahead.f kj19 t308 (wrap64 ((wrap64 (t306 + (t305.size : Int))) - x7_1))).bind fun bt313 => (some (bt313.1, bt313.2))) else (if r12.toList = h13.toList then (if (((((bt l8 (ji27)) - 48) % 256) % 2) = 0) then ((spec_l07Ahead.f kj19 l8 (wrap64 ((wrap64 (t306 + (t305.size : Int))) - x7_1))).bind fun bt315 => (some (bt315.1, bt315.2))) else ((spec_l07Ahead.f kj19 t308 (wrap64 ((wrap64 (t306 + (t305.size : Int))) - x7_1))).bind fun bt317 => (some (bt317.1, bt317.2)))) else ((spec_l07Ahead.f kj19 l8 (wrap64 ((wrap64 (t306 + (t305.size : Int))) - x7_1))).bind fun bt319 => (some (bt319.1, bt319.2))))) else ((spec_l07Ahead.f kj19 l8 (wrap64 ((wrap64 (t306 + (t305.size : Int))) - x7_1))).bind fun bt321 => (some (bt321.1, bt321.2)))) else ((spec_l07Ahead.f kj19 t308 (wrap64 ((wrap64 (t306 + (t305.size : Int))) - x7_1))).bind fun bt323 => (some (bt323.1, bt323.2)))) else (none)) else (none)) = some (r1, r2) := by first | (rw [hji27] at H; exact H) | (simp only [hji27] at H ⊢; exact H)
              have hji27w : (IntKind.i64.wrap (x7_1 - 1)) = ji27 := (i64_w _).trans hji27
              by_cases c28 : 0 ≤ (ji27)
              ·rw [if_pos c28] at H
               have c28b0 : decide (0 ≤ (ji27)) = true := decide_eq_true c28
               clear c28
               by_cases c29 : (ji27) < (l8.size : Int)
               ·rw [if_pos c29] at H
                have c29b0 : decide ((ji27) < (l8.size : Int)) = true := decide_eq_true c29
                clear c29
                by_cases c31 : (t311 == (Int.tmod a0 t307)) = true
                ·rw [if_pos c31] at H
                 have c31b0 : (t311 == (Int.tmod a0 t307)) = true := c31
                 (try (have c31b1 : decide (t311 = (Int.tmod a0 t307)) = true := by simpa using c31))
                 (try (have c31b2 : (t311 == (Int.tmod a0 t307)) = true := by simpa using c31))
                 clear c31
                 by_cases c32 : (t312 == (Int.tmod a0 t307)) = true
                 ·rw [if_pos c32] at H
                  have c32b0 : (t312 == (Int.tmod a0 t307)) = true := c32
                  (try (have c32b1 : decide (t312 = (Int.tmod a0 t307)) = true := by simpa using c32))
                  (try (have c32b2 : (t312 == (Int.tmod a0 t307)) = true := by simpa using c32))
                  clear c32
                  by_cases c33 : (Op.bytesLess h13.toList r12.toList) = true
                  ·rw [if_pos c33] at H
                   have c33b0 : (Op.bytesLess h13.toList r12.toList) = true := c33
                   clear c33
                   replace H := Option.bind_eq_some_iff.mp H
                   obtain ⟨⟨t313, t314⟩, A340, H⟩ := H
                   replace H : (some (t313, t314)) = some (r1, r2) := H
                   have A34 := Aside0.mk A340
                   clear A340
                   simp only [Option.some.injEq, Prod.mk.injEq] at H
                   obtain ⟨rfl, rfl⟩ := H
                   have p30 : 0 ≤ ((ji27) : Int) := of_decide_eq_true (by first | (with_reducible assumption) | assumption)
                   have q30 : (ji27) < (l8.size : Int) := of_decide_eq_true (by first | (with_reducible assumption) | assumption)
                   have hx30 := bt_at l8 (ji27)
                   replace p30 := eq_true p30
                   replace q30 := eq_true q30
                   go_wp2_with (first | ((with_reducible refine gate_callee (f := 63) rfl ?_); refine goesL_ (some 106) rfl rfl Tryz.func63 (by kernel_rfl) rfl #[.string t308, .int .i64 (wrap64 ((wrap64 (t306 + (t305.size : Int))) - x7_1))] rfl (by (try simp only [List.map_toArray, List.map_cons, List.map_nil]) <;> rfl) ?_; (with_reducible refine (spec_l07Ahead.calls kj19 t308 (wrap64 ((wrap64 (t306 + (t305.size : Int))) - x7_1)) t313 t314 _ A34.out).mono ?_); rintro e w' ⟨rfl, ⟨nd, rfl⟩⟩; refine ⟨_, rfl, ?_⟩))
                   go_ret2
                   exact ⟨by first | rfl | (simp [errW_none, errW_some] <;> rfl) | (simp only [← hji27]; first | rfl | (simp [errW_none, errW_some] <;> rfl)) | (simp [*, errW_none, errW_some] <;> rfl), by repeat (first | (with_reducible first | exact HB.out | apply below_alloc | apply pw_below_drewN | apply below_drew1) | exact HB.out)⟩
                  ·rw [if_neg c33] at H
                   have c33b0 : (Op.bytesLess h13.toList r12.toList) = false := by simpa using c33
                   clear c33
                   by_cases c35 : r12.toList = h13.toList
                   ·rw [if_pos c35] at H
                    have c35b0 : (r12.toList == h13.toList) = true := beq_iff_eq.mpr c35
                    have c35b1 : (r12.toList != h13.toList) = false := bne_eq_false_iff_eq.mpr c35
                    clear c35
                    by_cases c36 : (((((bt l8 (ji27)) - 48) % 256) % 2) = 0)
                    ·rw [if_pos c36] at H
                     have c36b0 : (((((bt l8 (ji27)) - 48) % 256) % 2) == 0) = true := beq_iff_eq.mpr c36
                     have c36b2 : ((((bt l8 (ji27)) - 48) % 2) == 0) = true := by rw [← c36b0, show (((bt l8 (ji27)) - 48) % 256) % 2 = ((bt l8 (ji27)) - 48) % 2 from by omega]
                     have c36b1 : (((((bt l8 (ji27)) - 48) % 256) % 2) != 0) = false := bne_eq_false_iff_eq.mpr c36
                     clear c36
                     replace H := Option.bind_eq_some_iff.mp H
                     obtain ⟨⟨t315, t316⟩, A370, H⟩ := H
                     replace H : (some (t315, t316)) = some (r1, r2) := H
                     have A37 := Aside0.mk A370
                     clear A370
                     simp only [Option.some.injEq, Prod.mk.injEq] at H
                     obtain ⟨rfl, rfl⟩ := H
                     have p30 : 0 ≤ ((ji27) : Int) := of_decide_eq_true (by first | (with_reducible assumption) | assumption)
                     have q30 : (ji27) < (l8.size : Int) := of_decide_eq_true (by first | (with_reducible assumption) | assumption)
                     have hx30 := bt_at l8 (ji27)
                     replace p30 := eq_true p30
                     replace q30 := eq_true q30
                     go_wp2_with (first | ((with_reducible refine gate_callee (f := 63) rfl ?_); refine goesL_ (some 106) rfl rfl Tryz.func63 (by kernel_rfl) rfl #[.string l8, .int .i64 (wrap64 ((wrap64 (t306 + (t305.size : Int))) - x7_1))] rfl (by (try simp only [List.map_toArray, List.map_cons, List.map_nil]) <;> rfl) ?_; (with_reducible refine (spec_l07Ahead.calls kj19 l8 (wrap64 ((wrap64 (t306 + (t305.size : Int))) - x7_1)) t315 t316 _ A37.out).mono ?_); rintro e w' ⟨rfl, ⟨nd, rfl⟩⟩; refine ⟨_, rfl, ?_⟩))
                     go_ret2
                     exact ⟨by first | rfl | (simp [errW_none, errW_some] <;> rfl) | (simp only [← hji27]; first | rfl | (simp [errW_none, errW_some] <;> rfl)) | (simp [*, errW_none, errW_some] <;> rfl), by repeat (first | (with_reducible first | exact HB.out | apply below_alloc | apply pw_below_drewN | apply below_drew1) | exact HB.out)⟩
                    ·rw [if_neg c36] at H
                     have c36b0 : (((((bt l8 (ji27)) - 48) % 256) % 2) == 0) = false := beq_eq_false_iff_ne.mpr c36
                     have c36b2 : ((((bt l8 (ji27)) - 48) % 2) == 0) = false := by rw [← c36b0, show (((bt l8 (ji27)) - 48) % 256) % 2 = ((bt l8 (ji27)) - 48) % 2 from by omega]
                     have c36b1 : (((((bt l8 (ji27)) - 48) % 256) % 2) != 0) = true := bne_iff_ne.mpr c36
                     replace H := Option.bind_eq_some_iff.mp H
                     obtain ⟨⟨t317, t318⟩, A380, H⟩ := H
                     replace H : (some (t317, t318)) = some (r1, r2) := H
                     have A38 := Aside0.mk A380
                     clear A380
                     simp only [Option.some.injEq, Prod.mk.injEq] at H
                     obtain ⟨rfl, rfl⟩ := H
                     have p30 : 0 ≤ ((ji27) : Int) := of_decide_eq_true (by first | (with_reducible assumption) | assumption)
                     have q30 : (ji27) < (l8.size : Int) := of_decide_eq_true (by first | (with_reducible assumption) | assumption)
                     have hx30 := bt_at l8 (ji27)
                     replace p30 := eq_true p30
                     replace q30 := eq_true q30
                     go_wp2_with (first | ((with_reducible refine gate_callee (f := 63) rfl ?_); refine goesL_ (some 106) rfl rfl Tryz.func63 (by kernel_rfl) rfl #[.string t308, .int .i64 (wrap64 ((wrap64 (t306 + (t305.size : Int))) - x7_1))] rfl (by (try simp only [List.map_toArray, List.map_cons, List.map_nil]) <;> rfl) ?_; (with_reducible refine (spec_l07Ahead.calls kj19 t308 (wrap64 ((wrap64 (t306 + (t305.size : Int))) - x7_1)) t317 t318 _ A38.out).mono ?_); rintro e w' ⟨rfl, ⟨nd, rfl⟩⟩; refine ⟨_, rfl, ?_⟩))
                     go_ret2
                     exact ⟨by first | rfl | (simp [errW_none, errW_some] <;> rfl) | (simp only [← hji27]; first | rfl | (simp [errW_none, errW_some] <;> rfl)) | (simp [*, errW_none, errW_some] <;> rfl), by repeat (first | (with_reducible first | exact HB.out | apply below_alloc | apply pw_below_drewN | apply below_drew1) | exact HB.out)⟩
                   ·rw [if_neg c35] at H
                    have c35b0 : (r12.toList == h13.toList) = false := beq_eq_false_iff_ne.mpr c35
                    have c35b1 : (r12.toList != h13.toList) = true := bne_iff_ne.mpr c35
                    replace H := Option.bind_eq_some_iff.mp H
                    obtain ⟨⟨t319, t320⟩, A390, H⟩ := H
                    replace H : (some (t319, t320)) = some (r1, r2) := H
                    have A39 := Aside0.mk A390
                    clear A390
                    simp only [Option.some.injEq, Prod.mk.injEq] at H
                    obtain ⟨rfl, rfl⟩ := H
                    have p30 : 0 ≤ ((ji27) : Int) := of_decide_eq_true (by first | (with_reducible assumption) | assumption)
                    have q30 : (ji27) < (l8.size : Int) := of_decide_eq_true (by first | (with_reducible assumption) | assumption)
                    have hx30 := bt_at l8 (ji27)
                    replace p30 := eq_true p30
                    replace q30 := eq_true q30
                    go_wp2_with (first | ((with_reducible refine gate_callee (f := 63) rfl ?_); refine goesL_ (some 106) rfl rfl Tryz.func63 (by kernel_rfl) rfl #[.string l8, .int .i64 (wrap64 ((wrap64 (t306 + (t305.size : Int))) - x7_1))] rfl (by (try simp only [List.map_toArray, List.map_cons, List.map_nil]) <;> rfl) ?_; (with_reducible refine (spec_l07Ahead.calls kj19 l8 (wrap64 ((wrap64 (t306 + (t305.size : Int))) - x7_1)) t319 t320 _ A39.out).mono ?_); rintro e w' ⟨rfl, ⟨nd, rfl⟩⟩; refine ⟨_, rfl, ?_⟩))
                    go_ret2
                    exact ⟨by first | rfl | (simp [errW_none, errW_some] <;> rfl) | (simp only [← hji27]; first | rfl | (simp [errW_none, errW_some] <;> rfl)) | (simp [*, errW_none, errW_some] <;> rfl), by repeat (first | (with_reducible first | exact HB.out | apply below_alloc | apply pw_below_drewN | apply below_drew1) | exact HB.out)⟩
                 ·rw [if_neg c32] at H
                  have c32b0 : (t312 == (Int.tmod a0 t307)) = false := by simpa using c32
                  (try (have c32b1 : decide (t312 = (Int.tmod a0 t307)) = false := by simpa using c32))
                  (try (have c32b2 : (t312 == (Int.tmod a0 t307)) = false := by simpa using c32))
                  (try (have c32b3 : ¬ (t312 = (Int.tmod a0 t307)) := by simpa using c32))
                  clear c32
                  replace H := Option.bind_eq_some_iff.mp H
                  obtain ⟨⟨t321, t322⟩, A400, H⟩ := H
                  replace H : (some (t321, t322)) = some (r1, r2) := H
                  have A40 := Aside0.mk A400
                  clear A400
                  simp only [Option.some.injEq, Prod.mk.injEq] at H
                  obtain ⟨rfl, rfl⟩ := H
                  have p30 : 0 ≤ ((ji27) : Int) := of_decide_eq_true (by first | (with_reducible assumption) | assumption)
                  have q30 : (ji27) < (l8.size : Int) := of_decide_eq_true (by first | (with_reducible assumption) | assumption)
                  have hx30 := bt_at l8 (ji27)
                  replace p30 := eq_true p30
                  replace q30 := eq_true q30
                  go_wp2_with (first | ((with_reducible refine gate_callee (f := 63) rfl ?_); refine goesL_ (some 106) rfl rfl Tryz.func63 (by kernel_rfl) rfl #[.string l8, .int .i64 (wrap64 ((wrap64 (t306 + (t305.size : Int))) - x7_1))] rfl (by (try simp only [List.map_toArray, List.map_cons, List.map_nil]) <;> rfl) ?_; (with_reducible refine (spec_l07Ahead.calls kj19 l8 (wrap64 ((wrap64 (t306 + (t305.size : Int))) - x7_1)) t321 t322 _ A40.out).mono ?_); rintro e w' ⟨rfl, ⟨nd, rfl⟩⟩; refine ⟨_, rfl, ?_⟩))
                  go_ret2
                  exact ⟨by first | rfl | (simp [errW_none, errW_some] <;> rfl) | (simp only [← hji27]; first | rfl | (simp [errW_none, errW_some] <;> rfl)) | (simp [*, errW_none, errW_some] <;> rfl), by repeat (first | (with_reducible first | exact HB.out | apply below_alloc | apply pw_below_drewN | apply below_drew1) | exact HB.out)⟩
                ·rw [if_neg c31] at H
                 have c31b0 : (t311 == (Int.tmod a0 t307)) = false := by simpa using c31
                 (try (have c31b1 : decide (t311 = (Int.tmod a0 t307)) = false := by simpa using c31))
                 (try (have c31b2 : (t311 == (Int.tmod a0 t307)) = false := by simpa using c31))
                 (try (have c31b3 : ¬ (t311 = (Int.tmod a0 t307)) := by simpa using c31))
                 clear c31
                 replace H := Option.bind_eq_some_iff.mp H
                 obtain ⟨⟨t323, t324⟩, A410, H⟩ := H
                 replace H : (some (t323, t324)) = some (r1, r2) := H
                 have A41 := Aside0.mk A410
                 clear A410
                 simp only [Option.some.injEq, Prod.mk.injEq] at H
                 obtain ⟨rfl, rfl⟩ := H
                 have p30 : 0 ≤ ((ji27) : Int) := of_decide_eq_true (by first | (with_reducible assumption) | assumption)
                 have q30 : (ji27) < (l8.size : Int) := of_decide_eq_true (by first | (with_reducible assumption) | assumption)
                 have hx30 := bt_at l8 (ji27)
                 replace p30 := eq_true p30
                 replace q30 := eq_true q30
                 go_wp2_with (first | ((with_reducible refine gate_callee (f := 63) rfl ?_); refine goesL_ (some 106) rfl rfl Tryz.func63 (by kernel_rfl) rfl #[.string t308, .int .i64 (wrap64 ((wrap64 (t306 + (t305.size : Int))) - x7_1))] rfl (by (try simp only [List.map_toArray, List.map_cons, List.map_nil]) <;> rfl) ?_; (with_reducible refine (spec_l07Ahead.calls kj19 t308 (wrap64 ((wrap64 (t306 + (t305.size : Int))) - x7_1)) t323 t324 _ A41.out).mono ?_); rintro e w' ⟨rfl, ⟨nd, rfl⟩⟩; refine ⟨_, rfl, ?_⟩))
                 go_ret2
                 exact ⟨by first | rfl | (simp [errW_none, errW_some] <;> rfl) | (simp only [← hji27]; first | rfl | (simp [errW_none, errW_some] <;> rfl)) | (simp [*, errW_none, errW_some] <;> rfl), by repeat (first | (with_reducible first | exact HB.out | apply below_alloc | apply pw_below_drewN | apply below_drew1) | exact HB.out)⟩
               ·rw [if_neg c29] at H
                exact absurd H (by simp)
              ·rw [if_neg c28] at H
               exact absurd H (by simp)
          ·rw [if_neg c17] at H
           exact absurd H (by simp)
         ·rw [if_neg c12] at H
          exact absurd H (by simp)
        ·rw [if_neg c11] at H
         exact absurd H (by simp)
       ·replace c10 := Bool.eq_false_iff.mpr c10
        subst c10
        have H1 : (some (t305, t306)) = some (r1, r2) := by rw [if_neg (show ¬ (false = true) by decide)] at H; exact H
        clear H
        have H := H1
        clear H1
        simp only [Option.some.injEq, Prod.mk.injEq] at H
        obtain ⟨rfl, rfl⟩ := H
        go_wp2
        go_ret2
        exact ⟨by first | rfl | (simp [errW_none, errW_some] <;> rfl) | (simp [*, errW_none, errW_some] <;> rfl), by repeat (first | (with_reducible first | exact HB.out | apply below_alloc | apply pw_below_drewN | apply below_drew1) | exact HB.out)⟩

def impl_isNaN.f (a0 : Int) : Option (Bool) := some (decide ((Go.bits .and .u64 a0 9223372036854775807) > 9218868437227405312))
set_option maxHeartbeats 8000000 in
set_option maxRecDepth 100000 in
theorem impl_isNaN.calls (a0 : Int) (r : Bool) (w : World) (h : impl_isNaN.f a0 = some r) :
  Calls Tryz.prog 90 #[.int .u64 a0] w fun e w' => e = .returned (.bool r) ∧ Drawn0 w w' := by
 have H : (some (decide ((Go.bits .and .u64 a0 9223372036854775807) > 9218868437227405312))) = some r := h
 clear h
 obtain rfl := Option.some.inj H
 go_enter Tryz.func90, Tryz.ntmps90
 go_wp2
 go_ret
 exact ⟨by first | rfl | (simp; done) | (simp [*]; done), by repeat (first | exact Drawn0.refl _ | apply Drawn0.step)⟩

def impl_PartsOfNumber.j0 : Nat → Bool → Int → Int → Bool → Option (Int × Bool × Int × Int)
 | 0, _, _, _, _ => none
 | k + 1, x3, x4, x5, x24 => if x24 = true then (some (3, x3, 0, 0)) else (if x5 = 0 then (some (4, x3, x4, (-1074))) else (some (4, x3, Go.bits .or .u64 x4 4503599627370496, wrap64 (x5 - 1075))))
def impl_PartsOfNumber.f (k : Nat) (a0 : Int) : Option (Int × Bool × Int × Int) := (impl_isNaN.f a0).bind fun t326 => (if t326 = true then (some (1, false, 0, 0)) else (if (wrap64 (Go.bits .and .u64 (a0 / 4503599627370496) 2047)) = 2047 then (some (2, ((a0 / 9223372036854775808) == 1), 0, 0)) else (if (wrap64 (Go.bits .and .u64 (a0 / 4503599627370496) 2047)) = 0 then (impl_PartsOfNumber.j0 k ((a0 / 9223372036854775808) == 1) (Go.bits .and .u64 a0 4503599627370495) (wrap64 (Go.bits .and .u64 (a0 / 4503599627370496) 2047)) ((Go.bits .and .u64 a0 4503599627370495) == 0)) else (impl_PartsOfNumber.j0 k ((a0 / 9223372036854775808) == 1) (Go.bits .and .u64 a0 4503599627370495) (wrap64 (Go.bits .and .u64 (a0 / 4503599627370496) 2047)) false))))
theorem impl_PartsOfNumber.mono_l : ∀ k, (∀ y0 y1 y2 y3, LeO (impl_PartsOfNumber.j0 k y0 y1 y2 y3) (impl_PartsOfNumber.j0 (k + 1) y0 y1 y2 y3))
  | 0 => fun _ _ _ _ r h => by simp [impl_PartsOfNumber.j0] at h
  | k + 1 => by
    have ih0 := impl_PartsOfNumber.mono_l k
    · intro y0 y1 y2 y3
      unfold impl_PartsOfNumber.j0
      repeat' first
      | (with_reducible exact ih0 _ _ _ _)
      | (with_reducible exact LeO.refl _)
      | (with_reducible exact LeO.none _)
      | (with_reducible refine LeO.ite ?_ ?_)
      | (with_reducible refine LeO.bind ?_ (fun _ => ?_))
theorem impl_PartsOfNumber.mono : ∀ a0 k, LeO (impl_PartsOfNumber.f k a0) (impl_PartsOfNumber.f (k + 1) a0) := by
 intro a0 k
 have ih0 := impl_PartsOfNumber.mono_l k
 unfold impl_PartsOfNumber.f
 repeat' first
   | (with_reducible exact ih0 _ _ _ _)
   | (with_reducible exact LeO.refl _)
   | (with_reducible exact LeO.none _)
   | (with_reducible refine LeO.ite ?_ ?_)
   | (with_reducible refine LeO.bind ?_ (fun _ => ?_))
set_option maxHeartbeats 8000000 in
set_option maxRecDepth 100000 in
theorem impl_PartsOfNumber.calls (k : Nat) (a0 : Int) (r1 : Int) (r2 : Bool) (r3 : Int) (r4 : Int) (w : World) (h : impl_PartsOfNumber.f k a0 = some (r1, r2, r3, r4)) :
  Calls Tryz.prog 58 #[.int .u64 a0] w fun e w' => e = .returned (.agg #[.int .i64 r1, .bool r2, .int .u64 r3, .int .i64 r4]) ∧ Below w.heap.size w w' := by
 have hu35 := Tryz.underlying35
 have HB := Aside0.mk (Below.refl w.heap.size w)
 have H : ((impl_isNaN.f a0).bind fun t326 => (if t326 = true then (some (1, false, 0, 0)) else (if (wrap64 (Go.bits .and .u64 (a0 / 4503599627370496) 2047)) = 2047 then (some (2, ((a0 / 9223372036854775808) == 1), 0, 0)) else (if (wrap64 (Go.bits .and .u64 (a0 / 4503599627370496) 2047)) = 0 then (impl_PartsOfNumber.j0 k ((a0 / 9223372036854775808) == 1) (Go.bits .and .u64 a0 4503599627370495) (wrap64 (Go.bits .and .u64 (a0 / 4503599627370496) 2047)) ((Go.bits .and .u64 a0 4503599627370495) == 0)) else (impl_PartsOfNumber.j0 k ((a0 / 9223372036854775808) == 1) (Go.bits .and .u64 a0 4503599627370495) (wrap64 (Go.bits .and .u64 (a0 / 4503599627370496) 2047)) false))))) = some (r1, r2, r3, r4) := h
 clear h
 replace H := Option.bind_eq_some_iff.mp H
 obtain ⟨t326, A20, H⟩ := H
 replace H : (if t326 = true then (some (1, false, 0, 0)) else (if (wrap64 (Go.bits .and .u64 (a0 / 4503599627370496) 2047)) = 2047 then (some (2, ((a0 / 9223372036854775808) == 1), 0, 0)) else (if (wrap64 (Go.bits .and .u64 (a0 / 4503599627370496) 2047)) = 0 then (impl_PartsOfNumber.j0 k ((a0 / 9223372036854775808) == 1) (Go.bits .and .u64 a0 4503599627370495) (wrap64 (Go.bits .and .u64 (a0 / 4503599627370496) 2047)) ((Go.bits .and .u64 a0 4503599627370495) == 0)) else (impl_PartsOfNumber.j0 k ((a0 / 9223372036854775808) == 1) (Go.bits .and .u64 a0 4503599627370495) (wrap64 (Go.bits .and .u64 (a0 / 4503599627370496) 2047)) false)))) = some (r1, r2, r3, r4) := H
 have A2 := Aside0.mk A20
 clear A20
 by_cases c3 : t326 = true
 ·subst c3
  have H1 : (some (1, false, 0, 0)) = some (r1, r2, r3, r4) := by rw [if_pos rfl] at H; exact H
  clear H
  have H := H1
  clear H1
  simp only [Option.some.injEq, Prod.mk.injEq] at H
  obtain ⟨rfl, rfl, rfl, rfl⟩ := H
  go_enter Tryz.func58, Tryz.ntmps58
  go_wp2_with (first | ((with_reducible refine gate_dst (N := 2) rfl ?_); refine box_event ?hg (N := 2) ?hd (cs := #[.int .i64 0, .bool false, .int .u64 0, .int .i64 0]) (t := 35) ?hr ?_; (case hd => rfl); (case hg => rfl); (case hr => first | (go_simp; done) | (go_simp; rfl)); intro gb325 hg w4 hbox hb; have n0_ := Aside0.mk (below_step (by repeat (first | exact HB.out | apply below_alloc | apply pw_below_drewN | apply below_drew1)) hb); have n1_ := Aside0.mk (hbox); have n2_ := Aside0.mk ((by rw [hg]; exact (below_size (by repeat (first | exact HB.out | apply below_alloc | apply pw_below_drewN | apply below_drew1))) : w.heap.size ≤ gb325)); have n3_ := Aside0.mk ((by rw [hg]; exact (below_size (by repeat (first | exact HB.out | apply below_alloc | apply pw_below_drewN | apply below_drew1))) : w.heap.size ≤ gb325)); clear HB; have HB := n0_; have BK325 := n1_; have GW325 := n2_; have GE325 := n3_; clear n0_ n1_ n2_ n3_; clear hb hbox hg) | ((with_reducible refine gate_callee (f := 90) rfl ?_); refine goesL_ (some 17) rfl rfl Tryz.func90 (by kernel_rfl) rfl #[.int .u64 a0] rfl (by (try simp only [List.map_toArray, List.map_cons, List.map_nil]) <;> rfl) ?_; (with_reducible refine (impl_isNaN.calls a0 true _ A2.out).mono ?_); rintro e w' ⟨rfl, ⟨nd, rfl⟩⟩; refine ⟨_, rfl, ?_⟩; (try (rw [drewN_self w4]; generalize hq_ : World.drewN w4 _ = w4; have n0_ : Aside0 (w4.heap[gb325]? = some (.cells #[.int .i64 0, .bool false, .int .u64 0, .int .i64 0] 35 (0, 0))) := ⟨by rw [← hq_]; exact (by (with_reducible repeat (first | refine blk_drewN ?_ _ | refine blk_drew ?_ | refine blk_alloc ?_ _)); exact BK325.out)⟩; have n1_ : Aside0 (Below w.heap.size w w4) := ⟨by rw [← hq_]; exact (by repeat (first | (with_reducible first | exact HB.out | apply below_alloc | apply pw_below_drewN | apply below_drew1 | refine below_set ?_ GE325.out) | exact HB.out))⟩; clear BK325 HB hq_; have BK325 := n0_; have HB := n1_; clear n0_ n1_)); have hcz5_0 : w4.cell? ⟨gb325, 0, none⟩ = some (.int .i64 0) := (blk_cell BK325.out 0).trans rfl; have hcz5_1 : w4.cell? ⟨gb325, 1, none⟩ = some (.bool false) := (blk_cell BK325.out 1).trans rfl; have hcz5_2 : w4.cell? ⟨gb325, 2, none⟩ = some (.int .u64 0) := (blk_cell BK325.out 2).trans rfl; have hcz5_3 : w4.cell? ⟨gb325, 3, none⟩ = some (.int .i64 0) := (blk_cell BK325.out 3).trans rfl; have hfz5_0 := blk_frozen BK325.out 0; have hfz5_1 := blk_frozen BK325.out 1; have hfz5_2 := blk_frozen BK325.out 2; have hfz5_3 := blk_frozen BK325.out 3))
  refine bodyPost_ret (results_cell_row rfl _ _ gb325 35 #[.int .i64 1, .bool false, .int .u64 0, .int .i64 0] (0, 0) _ rfl (by (with_reducible repeat (first | refine blk_drewN ?_ _ | refine blk_drew ?_ | refine blk_alloc ?_ _)); refine blk_put (cs := #[.int .i64 1, .bool false, .int .u64 0, .int .i64 0]) ?_ 3 _ rfl; (with_reducible repeat (first | refine blk_drewN ?_ _ | refine blk_drew ?_ | refine blk_alloc ?_ _)); refine blk_put (cs := #[.int .i64 1, .bool false, .int .u64 0, .int .i64 0]) ?_ 2 _ rfl; (with_reducible repeat (first | refine blk_drewN ?_ _ | refine blk_drew ?_ | refine blk_alloc ?_ _)); refine blk_put (cs := #[.int .i64 1, .bool false, .int .u64 0, .int .i64 0]) ?_ 1 _ rfl; (with_reducible repeat (first | refine blk_drewN ?_ _ | refine blk_drew ?_ | refine blk_alloc ?_ _)); refine blk_put (cs := #[.int .i64 0, .bool false, .int .u64 0, .int .i64 0]) ?_ 0 _ rfl; (with_reducible repeat (first | refine blk_drewN ?_ _ | refine blk_drew ?_ | refine blk_alloc ?_ _)); exact BK325.out) Tryz.underlying35 rfl (by kernel_rfl)) rfl ?_
  exact ⟨by first | rfl | (simp [errW_none, errW_some] <;> rfl) | (simp [*, errW_none, errW_some] <;> rfl), by repeat (first | (with_reducible first | exact HB.out | apply below_alloc | apply pw_below_drewN | apply below_drew1 | refine below_set ?_ GE325.out) | exact HB.out)⟩
 ·replace c3 := Bool.eq_false_iff.mpr c3
  subst c3
  have H1 : (if (wrap64 (Go.bits .and .u64 (a0 / 4503599627370496) 2047)) = 2047 then (some (2, ((a0 / 9223372036854775808) == 1), 0, 0)) else (if (wrap64 (Go.bits .and .u64 (a0 / 4503599627370496) 2047)) = 0 then (impl_PartsOfNumber.j0 k ((a0 / 9223372036854775808) == 1) (Go.bits .and .u64 a0 4503599627370495) (wrap64 (Go.bits .and .u64 (a0 / 4503599627370496) 2047)) ((Go.bits .and .u64 a0 4503599627370495) == 0)) else (impl_PartsOfNumber.j0 k ((a0 / 9223372036854775808) == 1) (Go.bits .and .u64 a0 4503599627370495) (wrap64 (Go.bits .and .u64 (a0 / 4503599627370496) 2047)) false))) = some (r1, r2, r3, r4) := by rw [if_neg (show ¬ (false = true) by decide)] at H; exact H
  clear H
  have H := H1
  clear H1
  by_cases c6 : (wrap64 (Go.bits .and .u64 (a0 / 4503599627370496) 2047)) = 2047
  ·rw [if_pos c6] at H
   have c6b0 : ((wrap64 (Go.bits .and .u64 (a0 / 4503599627370496) 2047)) == 2047) = true := beq_iff_eq.mpr c6
   have c6b1 : ((wrap64 (Go.bits .and .u64 (a0 / 4503599627370496) 2047)) != 2047) = false := bne_eq_false_iff_eq.mpr c6
   clear c6
   simp only [Option.some.injEq, Prod.mk.injEq] at H
   obtain ⟨rfl, rfl, rfl, rfl⟩ := H
   go_enter Tryz.func58, Tryz.ntmps58
   go_wp2_with (first | ((with_reducible refine gate_dst (N := 2) rfl ?_); refine box_event ?hg (N := 2) ?hd (cs := #[.int .i64 0, .bool false, .int .u64 0, .int .i64 0]) (t := 35) ?hr ?_; (case hd => rfl); (case hg => rfl); (case hr => first | (go_simp; done) | (go_simp; rfl)); intro gb325 hg w7 hbox hb; have n0_ := Aside0.mk (below_step (by repeat (first | exact HB.out | apply below_alloc | apply pw_below_drewN | apply below_drew1)) hb); have n1_ := Aside0.mk (hbox); have n2_ := Aside0.mk ((by rw [hg]; exact (below_size (by repeat (first | exact HB.out | apply below_alloc | apply pw_below_drewN | apply below_drew1))) : w.heap.size ≤ gb325)); have n3_ := Aside0.mk ((by rw [hg]; exact (below_size (by repeat (first | exact HB.out | apply below_alloc | apply pw_below_drewN | apply below_drew1))) : w.heap.size ≤ gb325)); clear HB; have HB := n0_; have BK325 := n1_; have GW325 := n2_; have GE325 := n3_; clear n0_ n1_ n2_ n3_; clear hb hbox hg) | ((with_reducible refine gate_callee (f := 90) rfl ?_); refine goesL_ (some 17) rfl rfl Tryz.func90 (by kernel_rfl) rfl #[.int .u64 a0] rfl (by (try simp only [List.map_toArray, List.map_cons, List.map_nil]) <;> rfl) ?_; (with_reducible refine (impl_isNaN.calls a0 false _ A2.out).mono ?_); rintro e w' ⟨rfl, ⟨nd, rfl⟩⟩; refine ⟨_, rfl, ?_⟩; (try (rw [drewN_self w7]; generalize hq_ : World.drewN w7 _ = w7; have n0_ : Aside0 (w7.heap[gb325]? = some (.cells #[.int .i64 0, .bool false, .int .u64 0, .int .i64 0] 35 (0, 0))) := ⟨by rw [← hq_]; exact (by (with_reducible repeat (first | refine blk_drewN ?_ _ | refine blk_drew ?_ | refine blk_alloc ?_ _)); exact BK325.out)⟩; have n1_ : Aside0 (Below w.heap.size w w7) := ⟨by rw [← hq_]; exact (by repeat (first | (with_reducible first | exact HB.out | apply below_alloc | apply pw_below_drewN | apply below_drew1 | refine below_set ?_ GE325.out) | exact HB.out))⟩; clear BK325 HB hq_; have BK325 := n0_; have HB := n1_; clear n0_ n1_)); have hcz8_0 : w7.cell? ⟨gb325, 0, none⟩ = some (.int .i64 0) := (blk_cell BK325.out 0).trans rfl; have hcz8_1 : w7.cell? ⟨gb325, 1, none⟩ = some (.bool false) := (blk_cell BK325.out 1).trans rfl; have hcz8_2 : w7.cell? ⟨gb325, 2, none⟩ = some (.int .u64 0) := (blk_cell BK325.out 2).trans rfl; have hcz8_3 : w7.cell? ⟨gb325, 3, none⟩ = some (.int .i64 0) := (blk_cell BK325.out 3).trans rfl; have hfz8_0 := blk_frozen BK325.out 0; have hfz8_1 := blk_frozen BK325.out 1; have hfz8_2 := blk_frozen BK325.out 2; have hfz8_3 := blk_frozen BK325.out 3))
   refine bodyPost_ret (results_cell_row rfl _ _ gb325 35 #[.int .i64 2, .bool ((a0 / 9223372036854775808) == 1), .int .u64 0, .int .i64 0] (0, 0) _ rfl (by (with_reducible repeat (first | refine blk_drewN ?_ _ | refine blk_drew ?_ | refine blk_alloc ?_ _)); refine blk_put (cs := #[.int .i64 2, .bool ((a0 / 9223372036854775808) == 1), .int .u64 0, .int .i64 0]) ?_ 3 _ rfl; (with_reducible repeat (first | refine blk_drewN ?_ _ | refine blk_drew ?_ | refine blk_alloc ?_ _)); refine blk_put (cs := #[.int .i64 2, .bool ((a0 / 9223372036854775808) == 1), .int .u64 0, .int .i64 0]) ?_ 2 _ rfl; (with_reducible repeat (first | refine blk_drewN ?_ _ | refine blk_drew ?_ | refine blk_alloc ?_ _)); refine blk_put (cs := #[.int .i64 2, .bool false, .int .u64 0, .int .i64 0]) ?_ 1 _ rfl; (with_reducible repeat (first | refine blk_drewN ?_ _ | refine blk_drew ?_ | refine blk_alloc ?_ _)); refine blk_put (cs := #[.int .i64 0, .bool false, .int .u64 0, .int .i64 0]) ?_ 0 _ rfl; (with_reducible repeat (first | refine blk_drewN ?_ _ | refine blk_drew ?_ | refine blk_alloc ?_ _)); exact BK325.out) Tryz.underlying35 rfl (by kernel_rfl)) rfl ?_
   exact ⟨by first | rfl | (simp [errW_none, errW_some] <;> rfl) | (simp [*, errW_none, errW_some] <;> rfl), by repeat (first | (with_reducible first | exact HB.out | apply below_alloc | apply pw_below_drewN | apply below_drew1 | refine below_set ?_ GE325.out) | exact HB.out)⟩
  ·rw [if_neg c6] at H
   have c6b0 : ((wrap64 (Go.bits .and .u64 (a0 / 4503599627370496) 2047)) == 2047) = false := beq_eq_false_iff_ne.mpr c6
   have c6b1 : ((wrap64 (Go.bits .and .u64 (a0 / 4503599627370496) 2047)) != 2047) = true := bne_iff_ne.mpr c6
   have HC9 := Aside0.mk H
   clear H
   go_enter Tryz.func58, Tryz.ntmps58
   go_upto_region 8 with (first | ((with_reducible refine gate_dst (N := 2) rfl ?_); refine box_event ?hg (N := 2) ?hd (cs := #[.int .i64 0, .bool false, .int .u64 0, .int .i64 0]) (t := 35) ?hr ?_; (case hd => rfl); (case hg => rfl); (case hr => first | (go_simp; done) | (go_simp; rfl)); intro gb325 hg w10 hbox hb; have n0_ := Aside0.mk (below_step (by repeat (first | exact HB.out | apply below_alloc | apply pw_below_drewN | apply below_drew1)) hb); have n1_ := Aside0.mk (hbox); have n2_ := Aside0.mk ((by rw [hg]; exact (below_size (by repeat (first | exact HB.out | apply below_alloc | apply pw_below_drewN | apply below_drew1))) : w.heap.size ≤ gb325)); have n3_ := Aside0.mk ((by rw [hg]; exact (below_size (by repeat (first | exact HB.out | apply below_alloc | apply pw_below_drewN | apply below_drew1))) : w.heap.size ≤ gb325)); clear HB; have HB := n0_; have BK325 := n1_; have GW325 := n2_; have GE325 := n3_; clear n0_ n1_ n2_ n3_; clear hb hbox hg) | ((with_reducible refine gate_callee (f := 90) rfl ?_); refine goesL_ (some 17) rfl rfl Tryz.func90 (by kernel_rfl) rfl #[.int .u64 a0] rfl (by (try simp only [List.map_toArray, List.map_cons, List.map_nil]) <;> rfl) ?_; (with_reducible refine (impl_isNaN.calls a0 false _ A2.out).mono ?_); rintro e w' ⟨rfl, ⟨nd, rfl⟩⟩; refine ⟨_, rfl, ?_⟩))
   (try simp only [Act.put, List.setIfInBounds_toArray, List.set_cons_zero, List.set_cons_succ])
   go_cut [24] (fun v24 wc => ∃ (kq : Nat) (x24_8 : Bool), v24 = .bool x24_8 ∧ Aside0 (impl_PartsOfNumber.j0 kq ((a0 / 9223372036854775808) == 1) (Go.bits .and .u64 a0 4503599627370495) (wrap64 (Go.bits .and .u64 (a0 / 4503599627370496) 2047)) x24_8 = some (r1, r2, r3, r4)) ∧ Aside0 (kq ≤ k) ∧ Aside0 (wc.heap[gb325]? = some (.cells #[.int .i64 0, .bool false, .int .u64 0, .int .i64 0] 35 (0, 0))) ∧ Aside0 (Below w.heap.size w wc))
   case first =>
    have H := HC9.out
    clear HC9
    by_cases c11 : (wrap64 (Go.bits .and .u64 (a0 / 4503599627370496) 2047)) = 0
    ·rw [if_pos c11] at H
     have c11b0 : ((wrap64 (Go.bits .and .u64 (a0 / 4503599627370496) 2047)) == 0) = true := beq_iff_eq.mpr c11
     have c11b1 : ((wrap64 (Go.bits .and .u64 (a0 / 4503599627370496) 2047)) != 0) = false := bne_eq_false_iff_eq.mpr c11
     clear c11
     (first | rw [c11b0] | (simp only [i64_w, i32_w]; rw [c11b0]) | skip)
     have H' := Aside0.mk H
     clear H
     go_wp2
     go_meet
     case rel => exact ⟨_, (((Go.bits .and .u64 a0 4503599627370495) == 0)), (by first | rfl | (simp; done) | (simp [*]; done)), H', ⟨by first | omega | exact Nat.le_refl _⟩, ⟨by (with_reducible repeat (first | refine blk_drewN ?_ _ | refine blk_drew ?_ | refine blk_alloc ?_ _)); exact BK325.out⟩, ⟨by repeat (first | (with_reducible first | exact HB.out | apply below_alloc | apply pw_below_drewN | apply below_drew1 | refine below_set ?_ GE325.out) | exact HB.out)⟩⟩
    ·rw [if_neg c11] at H
     have c11b0 : ((wrap64 (Go.bits .and .u64 (a0 / 4503599627370496) 2047)) == 0) = false := beq_eq_false_iff_ne.mpr c11
     have c11b1 : ((wrap64 (Go.bits .and .u64 (a0 / 4503599627370496) 2047)) != 0) = true := bne_iff_ne.mpr c11
     (first | rw [c11b0] | (simp only [i64_w, i32_w]; rw [c11b0]) | skip)
     have H' := Aside0.mk H
     clear H
     go_wp2
     go_meet
     case rel => exact ⟨_, (false), (by first | rfl | (simp; done) | (simp [*]; done)), H', ⟨by first | omega | exact Nat.le_refl _⟩, ⟨by (with_reducible repeat (first | refine blk_drewN ?_ _ | refine blk_drew ?_ | refine blk_alloc ?_ _)); exact BK325.out⟩, ⟨by repeat (first | (with_reducible first | exact HB.out | apply below_alloc | apply pw_below_drewN | apply below_drew1 | refine below_set ?_ GE325.out) | exact HB.out)⟩⟩
   case rest =>
    clear HC9
    try clear c1
    try clear p2
    try clear c3
    try clear c5
    try clear c6
    try clear c6b0
    try clear c6b1
    try clear p6
    try clear c9
    try clear c11
    try clear c11b0
    try clear c11b1
    try clear hcz5_0
    try clear hcz5_1
    try clear hcz5_2
    try clear hcz5_3
    try clear hcz8_0
    try clear hcz8_1
    try clear hcz8_2
    try clear hcz8_3
    try clear hfz5_0
    try clear hfz5_1
    try clear hfz5_2
    try clear hfz5_3
    try clear hfz8_0
    try clear hfz8_1
    try clear hfz8_2
    try clear hfz8_3
    obtain ⟨kq, x24_8, rfl, HA, HJ8, BK325, HB⟩ := hcut
    cases kq with
    | zero => exact absurd HA.out (by simp [impl_PartsOfNumber.j0])
    | succ kj8 =>
     have H := HA.out
     clear HA
     simp only [impl_PartsOfNumber.j0] at H
     by_cases c12 : x24_8 = true
     ·subst c12
      have H1 : (some (3, ((a0 / 9223372036854775808) == 1), 0, 0)) = some (r1, r2, r3, r4) := by rw [if_pos rfl] at H; exact H
      clear H
      have H := H1
      clear H1
      simp only [Option.some.injEq, Prod.mk.injEq] at H
      obtain ⟨rfl, rfl, rfl, rfl⟩ := H
      have hcz13_0 : wc.cell? ⟨gb325, 0, none⟩ = some (.int .i64 0) := (blk_cell BK325.out 0).trans rfl
      have hcz13_1 : wc.cell? ⟨gb325, 1, none⟩ = some (.bool false) := (blk_cell BK325.out 1).trans rfl
      have hcz13_2 : wc.cell? ⟨gb325, 2, none⟩ = some (.int .u64 0) := (blk_cell BK325.out 2).trans rfl
      have hcz13_3 : wc.cell? ⟨gb325, 3, none⟩ = some (.int .i64 0) := (blk_cell BK325.out 3).trans rfl
      have hfz13_0 := blk_frozen BK325.out 0
      have hfz13_1 := blk_frozen BK325.out 1
      have hfz13_2 := blk_frozen BK325.out 2
      have hfz13_3 := blk_frozen BK325.out 3
      go_wp2
      refine bodyPost_ret (results_cell_row rfl _ _ gb325 35 #[.int .i64 3, .bool ((a0 / 9223372036854775808) == 1), .int .u64 0, .int .i64 0] (0, 0) _ rfl (by (with_reducible repeat (first | refine blk_drewN ?_ _ | refine blk_drew ?_ | refine blk_alloc ?_ _)); refine blk_put (cs := #[.int .i64 3, .bool ((a0 / 9223372036854775808) == 1), .int .u64 0, .int .i64 0]) ?_ 3 _ rfl; (with_reducible repeat (first | refine blk_drewN ?_ _ | refine blk_drew ?_ | refine blk_alloc ?_ _)); refine blk_put (cs := #[.int .i64 3, .bool ((a0 / 9223372036854775808) == 1), .int .u64 0, .int .i64 0]) ?_ 2 _ rfl; (with_reducible repeat (first | refine blk_drewN ?_ _ | refine blk_drew ?_ | refine blk_alloc ?_ _)); refine blk_put (cs := #[.int .i64 3, .bool false, .int .u64 0, .int .i64 0]) ?_ 1 _ rfl; (with_reducible repeat (first | refine blk_drewN ?_ _ | refine blk_drew ?_ | refine blk_alloc ?_ _)); refine blk_put (cs := #[.int .i64 0, .bool false, .int .u64 0, .int .i64 0]) ?_ 0 _ rfl; (with_reducible repeat (first | refine blk_drewN ?_ _ | refine blk_drew ?_ | refine blk_alloc ?_ _)); exact BK325.out) Tryz.underlying35 rfl (by kernel_rfl)) rfl ?_
      exact ⟨by first | rfl | (simp [errW_none, errW_some] <;> rfl) | (simp [*, errW_none, errW_some] <;> rfl), by repeat (first | (with_reducible first | exact HB.out | apply below_alloc | apply pw_below_drewN | apply below_drew1 | refine below_set ?_ GE325.out) | exact HB.out)⟩
     ·replace c12 := Bool.eq_false_iff.mpr c12
      subst c12
      have H1 : (if (wrap64 (Go.bits .and .u64 (a0 / 4503599627370496) 2047)) = 0 then (some (4, ((a0 / 9223372036854775808) == 1), (Go.bits .and .u64 a0 4503599627370495), (-1074))) else (some (4, ((a0 / 9223372036854775808) == 1), Go.bits .or .u64 (Go.bits .and .u64 a0 4503599627370495) 4503599627370496, wrap64 ((wrap64 (Go.bits .and .u64 (a0 / 4503599627370496) 2047)) - 1075)))) = some (r1, r2, r3, r4) := by rw [if_neg (show ¬ (false = true) by decide)] at H; exact H
      clear H
      have H := H1
      clear H1
      by_cases c14 : (wrap64 (Go.bits .and .u64 (a0 / 4503599627370496) 2047)) = 0
      ·rw [if_pos c14] at H
       have c14b0 : ((wrap64 (Go.bits .and .u64 (a0 / 4503599627370496) 2047)) == 0) = true := beq_iff_eq.mpr c14
       have c14b1 : ((wrap64 (Go.bits .and .u64 (a0 / 4503599627370496) 2047)) != 0) = false := bne_eq_false_iff_eq.mpr c14
       clear c14
       simp only [Option.some.injEq, Prod.mk.injEq] at H
       obtain ⟨rfl, rfl, rfl, rfl⟩ := H
       have hcz15_0 : wc.cell? ⟨gb325, 0, none⟩ = some (.int .i64 0) := (blk_cell BK325.out 0).trans rfl
       have hcz15_1 : wc.cell? ⟨gb325, 1, none⟩ = some (.bool false) := (blk_cell BK325.out 1).trans rfl
       have hcz15_2 : wc.cell? ⟨gb325, 2, none⟩ = some (.int .u64 0) := (blk_cell BK325.out 2).trans rfl
       have hcz15_3 : wc.cell? ⟨gb325, 3, none⟩ = some (.int .i64 0) := (blk_cell BK325.out 3).trans rfl
       have hfz15_0 := blk_frozen BK325.out 0
       have hfz15_1 := blk_frozen BK325.out 1
       have hfz15_2 := blk_frozen BK325.out 2
       have hfz15_3 := blk_frozen BK325.out 3
       go_wp2
       refine bodyPost_ret (results_cell_row rfl _ _ gb325 35 #[.int .i64 4, .bool ((a0 / 9223372036854775808) == 1), .int .u64 (Go.bits .and .u64 a0 4503599627370495), .int .i64 (-1074)] (0, 0) _ rfl (by (with_reducible repeat (first | refine blk_drewN ?_ _ | refine blk_drew ?_ | refine blk_alloc ?_ _)); refine blk_put (cs := #[.int .i64 4, .bool ((a0 / 9223372036854775808) == 1), .int .u64 (Go.bits .and .u64 a0 4503599627370495), .int .i64 0]) ?_ 3 _ rfl; (with_reducible repeat (first | refine blk_drewN ?_ _ | refine blk_drew ?_ | refine blk_alloc ?_ _)); refine blk_put (cs := #[.int .i64 4, .bool ((a0 / 9223372036854775808) == 1), .int .u64 0, .int .i64 0]) ?_ 2 _ rfl; (with_reducible repeat (first | refine blk_drewN ?_ _ | refine blk_drew ?_ | refine blk_alloc ?_ _)); refine blk_put (cs := #[.int .i64 4, .bool false, .int .u64 0, .int .i64 0]) ?_ 1 _ rfl; (with_reducible repeat (first | refine blk_drewN ?_ _ | refine blk_drew ?_ | refine blk_alloc ?_ _)); refine blk_put (cs := #[.int .i64 0, .bool false, .int .u64 0, .int .i64 0]) ?_ 0 _ rfl; (with_reducible repeat (first | refine blk_drewN ?_ _ | refine blk_drew ?_ | refine blk_alloc ?_ _)); exact BK325.out) Tryz.underlying35 rfl (by kernel_rfl)) rfl ?_
       exact ⟨by first | rfl | (simp [errW_none, errW_some] <;> rfl) | (simp [*, errW_none, errW_some] <;> rfl), by repeat (first | (with_reducible first | exact HB.out | apply below_alloc | apply pw_below_drewN | apply below_drew1 | refine below_set ?_ GE325.out) | exact HB.out)⟩
      ·rw [if_neg c14] at H
       have c14b0 : ((wrap64 (Go.bits .and .u64 (a0 / 4503599627370496) 2047)) == 0) = false := beq_eq_false_iff_ne.mpr c14
       have c14b1 : ((wrap64 (Go.bits .and .u64 (a0 / 4503599627370496) 2047)) != 0) = true := bne_iff_ne.mpr c14
       simp only [Option.some.injEq, Prod.mk.injEq] at H
       obtain ⟨rfl, rfl, rfl, rfl⟩ := H
       have hcz16_0 : wc.cell? ⟨gb325, 0, none⟩ = some (.int .i64 0) := (blk_cell BK325.out 0).trans rfl
       have hcz16_1 : wc.cell? ⟨gb325, 1, none⟩ = some (.bool false) := (blk_cell BK325.out 1).trans rfl
       have hcz16_2 : wc.cell? ⟨gb325, 2, none⟩ = some (.int .u64 0) := (blk_cell BK325.out 2).trans rfl
       have hcz16_3 : wc.cell? ⟨gb325, 3, none⟩ = some (.int .i64 0) := (blk_cell BK325.out 3).trans rfl
       have hfz16_0 := blk_frozen BK325.out 0
       have hfz16_1 := blk_frozen BK325.out 1
       have hfz16_2 := blk_frozen BK325.out 2
       have hfz16_3 := blk_frozen BK325.out 3
       go_wp2
       refine bodyPost_ret (results_cell_row rfl _ _ gb325 35 #[.int .i64 4, .bool ((a0 / 9223372036854775808) == 1), .int .u64 (Go.bits .or .u64 (Go.bits .and .u64 a0 4503599627370495) 4503599627370496), .int .i64 (wrap64 ((wrap64 (Go.bits .and .u64 (a0 / 4503599627370496) 2047)) - 1075))] (0, 0) _ rfl (by (with_reducible repeat (first | refine blk_drewN ?_ _ | refine blk_drew ?_ | refine blk_alloc ?_ _)); refine blk_put (cs := #[.int .i64 4, .bool ((a0 / 9223372036854775808) == 1), .int .u64 (Go.bits .or .u64 (Go.bits .and .u64 a0 4503599627370495) 4503599627370496), .int .i64 0]) ?_ 3 _ rfl; (with_reducible repeat (first | refine blk_drewN ?_ _ | refine blk_drew ?_ | refine blk_alloc ?_ _)); refine blk_put (cs := #[.int .i64 4, .bool ((a0 / 9223372036854775808) == 1), .int .u64 0, .int .i64 0]) ?_ 2 _ rfl; (with_reducible repeat (first | refine blk_drewN ?_ _ | refine blk_drew ?_ | refine blk_alloc ?_ _)); refine blk_put (cs := #[.int .i64 4, .bool false, .int .u64 0, .int .i64 0]) ?_ 1 _ rfl; (with_reducible repeat (first | refine blk_drewN ?_ _ | refine blk_drew ?_ | refine blk_alloc ?_ _)); refine blk_put (cs := #[.int .i64 0, .bool false, .int .u64 0, .int .i64 0]) ?_ 0 _ rfl; (with_reducible repeat (first | refine blk_drewN ?_ _ | refine blk_drew ?_ | refine blk_alloc ?_ _)); exact BK325.out) Tryz.underlying35 rfl (by kernel_rfl)) rfl ?_
       exact ⟨by first | rfl | (simp [errW_none, errW_some] <;> rfl) | (simp [*, errW_none, errW_some] <;> rfl), by repeat (first | (with_reducible first | exact HB.out | apply below_alloc | apply pw_below_drewN | apply below_drew1 | refine below_set ?_ GE325.out) | exact HB.out)⟩

def impl_scientific.f (a0 : Int) (a1 : Int) : Option (ByteArray × Int) := Go.Proofs.YtkjpelgdppmbjaaGreatDoor.G.impl_scientific a0 a1
theorem impl_scientific.calls (a0 : Int) (a1 : Int) (r1 : ByteArray) (r2 : Int) (w : World) (hm : Go.Proofs.YtkjpelgdppmbjaaGreatDoor.G.Homey w) (h : impl_scientific.f a0 a1 = some (r1, r2)) :
  Calls Tryz.prog 59 #[.int .u64 a0, .int .i64 a1] w fun e w' => e = .returned (.tuple #[.string r1, .int .i64 r2]) ∧ Below w.heap.size w w' := Go.Proofs.YtkjpelgdppmbjaaGreatDoor.G.impl_scientific_calls a0 a1 r1 r2 w hm h

def impl_Shortest.f (k : Nat) (a0 : Int) : Option (ByteArray × Int) := (impl_PartsOfNumber.f k a0).bind fun bt327 => (if bt327.1 = 4 then ((impl_scientific.f a0 (-1)).bind fun bt331 => (some (bt331.1, bt331.2))) else (some ((⟨#[]⟩ : ByteArray), 0)))
theorem impl_Shortest.mono : ∀ a0 k, LeO (impl_Shortest.f k a0) (impl_Shortest.f (k + 1) a0) := by
 intro a0 k
 unfold impl_Shortest.f
 repeat' first
   | (with_reducible exact impl_PartsOfNumber.mono _ _)
   | (with_reducible exact LeO.refl _)
   | (with_reducible exact LeO.none _)
   | (with_reducible refine LeO.ite ?_ ?_)
   | (with_reducible refine LeO.bind ?_ (fun _ => ?_))
set_option maxHeartbeats 8000000 in
set_option maxRecDepth 100000 in
theorem impl_Shortest.calls (k : Nat) (a0 : Int) (r1 : ByteArray) (r2 : Int) (w : World) (hm : Go.Proofs.YtkjpelgdppmbjaaGreatDoor.G.Homey w) (h : impl_Shortest.f k a0 = some (r1, r2)) :
  Calls Tryz.prog 26 #[.int .u64 a0] w fun e w' => e = .returned (.tuple #[.string r1, .int .i64 r2]) ∧ Below w.heap.size w w' := by
 have hf35_0 : ∀ (v0 v1 v2 v3 : Value) (W : World), (Instr.field 35 (.agg #[v0, v1, v2, v3]) 0).run Tryz.prog W = .ok (v0) W := fun _ _ _ _ _ => by kernel_rfl
 have HB := Aside0.mk (Below.refl w.heap.size w)
 have H : ((impl_PartsOfNumber.f k a0).bind fun bt327 => (if bt327.1 = 4 then ((impl_scientific.f a0 (-1)).bind fun bt331 => (some (bt331.1, bt331.2))) else (some ((⟨#[]⟩ : ByteArray), 0)))) = some (r1, r2) := h
 clear h
 replace H := Option.bind_eq_some_iff.mp H
 obtain ⟨⟨t327, t328, t329, t330⟩, A20, H⟩ := H
 replace H : (if t327 = 4 then ((impl_scientific.f a0 (-1)).bind fun bt331 => (some (bt331.1, bt331.2))) else (some ((⟨#[]⟩ : ByteArray), 0))) = some (r1, r2) := H
 have A2 := Aside0.mk A20
 clear A20
 by_cases c3 : t327 = 4
 ·rw [if_pos c3] at H
  have c3b0 : (t327 == 4) = true := beq_iff_eq.mpr c3
  have c3b1 : (t327 != 4) = false := bne_eq_false_iff_eq.mpr c3
  clear c3
  replace H := Option.bind_eq_some_iff.mp H
  obtain ⟨⟨t331, t332⟩, A40, H⟩ := H
  replace H : (some (t331, t332)) = some (r1, r2) := H
  have A4 := Aside0.mk A40
  clear A40
  simp only [Option.some.injEq, Prod.mk.injEq] at H
  obtain ⟨rfl, rfl⟩ := H
  go_enter Tryz.func26, Tryz.ntmps26
  go_wp2_with (first | ((with_reducible refine gate_callee (f := 58) rfl ?_); refine goesL_ (some 5) rfl rfl Tryz.func58 (by kernel_rfl) rfl #[.int .u64 a0] rfl (by (try simp only [List.map_toArray, List.map_cons, List.map_nil]) <;> rfl) ?_; (with_reducible refine (impl_PartsOfNumber.calls k a0 t327 t328 t329 t330 _ A2.out).mono ?_); rintro e w5 ⟨rfl, hb⟩; refine ⟨_, rfl, ?_⟩; have n0_ := Aside0.mk (below_step (by repeat (first | exact HB.out | apply below_alloc | apply pw_below_drewN | apply below_drew1)) hb); clear HB; have HB := n0_; clear n0_; (try clear hb)) | ((with_reducible refine gate_callee (f := 59) rfl ?_); refine goesL_ (some 9) rfl rfl Tryz.func59 (by kernel_rfl) rfl #[.int .u64 a0, .int .i64 (-1)] rfl (by (try simp only [List.map_toArray, List.map_cons, List.map_nil]) <;> rfl) ?_; (with_reducible refine (impl_scientific.calls a0 (-1) t331 t332 _ (hm.below (by repeat (first | (with_reducible first | exact HB.out | apply below_alloc | apply pw_below_drewN | apply below_drew1) | refine Below.setCell ?_ (Aside0.out (by assumption)) _ | exact HB.out))) A4.out).mono ?_); rintro e w6 ⟨rfl, hb⟩; refine ⟨_, rfl, ?_⟩; have n0_ := Aside0.mk (below_step (by repeat (first | exact HB.out | apply below_alloc | apply pw_below_drewN | apply below_drew1)) hb); clear HB; have HB := n0_; clear n0_; (try clear hb)))
  go_ret2
  exact ⟨by first | rfl | (simp [errW_none, errW_some] <;> rfl) | (simp [*, errW_none, errW_some] <;> rfl), by repeat (first | (with_reducible first | exact HB.out | apply below_alloc | apply pw_below_drewN | apply below_drew1) | exact HB.out)⟩
 ·rw [if_neg c3] at H
  have c3b0 : (t327 == 4) = false := beq_eq_false_iff_ne.mpr c3
  have c3b1 : (t327 != 4) = true := bne_iff_ne.mpr c3
  simp only [Option.some.injEq, Prod.mk.injEq] at H
  obtain ⟨rfl, rfl⟩ := H
  go_enter Tryz.func26, Tryz.ntmps26
  go_wp2_with (first | ((with_reducible refine gate_callee (f := 58) rfl ?_); refine goesL_ (some 5) rfl rfl Tryz.func58 (by kernel_rfl) rfl #[.int .u64 a0] rfl (by (try simp only [List.map_toArray, List.map_cons, List.map_nil]) <;> rfl) ?_; (with_reducible refine (impl_PartsOfNumber.calls k a0 t327 t328 t329 t330 _ A2.out).mono ?_); rintro e w7 ⟨rfl, hb⟩; refine ⟨_, rfl, ?_⟩; have n0_ := Aside0.mk (below_step (by repeat (first | exact HB.out | apply below_alloc | apply pw_below_drewN | apply below_drew1)) hb); clear HB; have HB := n0_; clear n0_; (try clear hb)))
  go_ret2
  exact ⟨by first | rfl | (simp [errW_none, errW_some] <;> rfl) | (simp [*, errW_none, errW_some] <;> rfl), by repeat (first | (with_reducible first | exact HB.out | apply below_alloc | apply pw_below_drewN | apply below_drew1) | exact HB.out)⟩

def laws_FnExactShortest.f (k : Nat) (a0 : Int) : Option (Bool) := (spec_Shortest.f k a0).bind fun bt333 => ((impl_Shortest.f k a0).bind fun bt335 => (if bt335.1.toList = bt333.1.toList then (if bt335.2 = bt333.2 then (some true) else (some false)) else (some false)))
theorem laws_FnExactShortest.mono : ∀ a0 k, LeO (laws_FnExactShortest.f k a0) (laws_FnExactShortest.f (k + 1) a0) := by
 intro a0 k
 unfold laws_FnExactShortest.f
 repeat' first
   | (with_reducible exact impl_Shortest.mono _ _)
   | (with_reducible exact spec_Shortest.mono _ _)
   | (with_reducible exact LeO.refl _)
   | (with_reducible exact LeO.none _)
   | (with_reducible refine LeO.ite ?_ ?_)
   | (with_reducible refine LeO.bind ?_ (fun _ => ?_))
set_option maxHeartbeats 8000000 in
set_option maxRecDepth 100000 in
theorem laws_FnExactShortest.calls (k : Nat) (a0 : Int) (r : Bool) (w : World) (hm : Go.Proofs.YtkjpelgdppmbjaaGreatDoor.G.Homey w) (h : laws_FnExactShortest.f k a0 = some r) :
  Calls Tryz.prog 6 #[.int .u64 a0] w fun e w' => e = .returned (.bool r) ∧ Below w.heap.size w w' := by
 have HB := Aside0.mk (Below.refl w.heap.size w)
 have H : ((spec_Shortest.f k a0).bind fun bt333 => ((impl_Shortest.f k a0).bind fun bt335 => (if bt335.1.toList = bt333.1.toList then (if bt335.2 = bt333.2 then (some true) else (some false)) else (some false)))) = some r := h
 clear h
 replace H := Option.bind_eq_some_iff.mp H
 obtain ⟨⟨t333, t334⟩, A20, H⟩ := H
 try dsimp only at H
 have A2 := Aside0.mk A20
 clear A20
 replace H := Option.bind_eq_some_iff.mp H
 obtain ⟨⟨t335, t336⟩, A30, H⟩ := H
 try dsimp only at H
 have A3 := Aside0.mk A30
 clear A30
 by_cases c4 : t335.toList = t333.toList
 ·rw [if_pos c4] at H
  have c4b0 : (t335.toList == t333.toList) = true := beq_iff_eq.mpr c4
  have c4b1 : (t335.toList != t333.toList) = false := bne_eq_false_iff_eq.mpr c4
  clear c4
  by_cases c5 : t336 = t334
  ·rw [if_pos c5] at H
   have c5b0 : (t336 == t334) = true := beq_iff_eq.mpr c5
   have c5b1 : (t336 != t334) = false := bne_eq_false_iff_eq.mpr c5
   clear c5
   obtain rfl := Option.some.inj H
   go_enter Tryz.func6, Tryz.ntmps6
   go_wp2_with (first | ((with_reducible refine gate_callee (f := 25) rfl ?_); refine goesL_ (some 9) rfl rfl Tryz.func25 (by kernel_rfl) rfl #[.int .u64 a0] rfl (by (try simp only [List.map_toArray, List.map_cons, List.map_nil]) <;> rfl) ?_; (with_reducible refine (spec_Shortest.calls k a0 t333 t334 _ A2.out).mono ?_); rintro e w6 ⟨rfl, hb⟩; refine ⟨_, rfl, ?_⟩; have n0_ := Aside0.mk (below_step (by repeat (first | exact HB.out | apply below_alloc | apply pw_below_drewN | apply below_drew1)) hb); clear HB; have HB := n0_; clear n0_; (try clear hb)) | ((with_reducible refine gate_callee (f := 26) rfl ?_); refine goesL_ (some 14) rfl rfl Tryz.func26 (by kernel_rfl) rfl #[.int .u64 a0] rfl (by (try simp only [List.map_toArray, List.map_cons, List.map_nil]) <;> rfl) ?_; (with_reducible refine (impl_Shortest.calls k a0 t335 t336 _ (hm.below (by repeat (first | (with_reducible first | exact HB.out | apply below_alloc | apply pw_below_drewN | apply below_drew1) | refine Below.setCell ?_ (Aside0.out (by assumption)) _ | exact HB.out))) A3.out).mono ?_); rintro e w7 ⟨rfl, hb⟩; refine ⟨_, rfl, ?_⟩; have n0_ := Aside0.mk (below_step (by repeat (first | exact HB.out | apply below_alloc | apply pw_below_drewN | apply below_drew1)) hb); clear HB; have HB := n0_; clear n0_; (try clear hb)))
   go_ret
   exact ⟨by first | rfl | (simp [errW_none, errW_some] <;> rfl) | (simp [*, errW_none, errW_some] <;> rfl), by repeat (first | (with_reducible first | exact HB.out | apply below_alloc | apply pw_below_drewN | apply below_drew1) | exact HB.out)⟩
  ·rw [if_neg c5] at H
   have c5b0 : (t336 == t334) = false := beq_eq_false_iff_ne.mpr c5
   have c5b1 : (t336 != t334) = true := bne_iff_ne.mpr c5
   obtain rfl := Option.some.inj H
   go_enter Tryz.func6, Tryz.ntmps6
   go_wp2_with (first | ((with_reducible refine gate_callee (f := 25) rfl ?_); refine goesL_ (some 9) rfl rfl Tryz.func25 (by kernel_rfl) rfl #[.int .u64 a0] rfl (by (try simp only [List.map_toArray, List.map_cons, List.map_nil]) <;> rfl) ?_; (with_reducible refine (spec_Shortest.calls k a0 t333 t334 _ A2.out).mono ?_); rintro e w8 ⟨rfl, hb⟩; refine ⟨_, rfl, ?_⟩; have n0_ := Aside0.mk (below_step (by repeat (first | exact HB.out | apply below_alloc | apply pw_below_drewN | apply below_drew1)) hb); clear HB; have HB := n0_; clear n0_; (try clear hb)) | ((with_reducible refine gate_callee (f := 26) rfl ?_); refine goesL_ (some 14) rfl rfl Tryz.func26 (by kernel_rfl) rfl #[.int .u64 a0] rfl (by (try simp only [List.map_toArray, List.map_cons, List.map_nil]) <;> rfl) ?_; (with_reducible refine (impl_Shortest.calls k a0 t335 t336 _ (hm.below (by repeat (first | (with_reducible first | exact HB.out | apply below_alloc | apply pw_below_drewN | apply below_drew1) | refine Below.setCell ?_ (Aside0.out (by assumption)) _ | exact HB.out))) A3.out).mono ?_); rintro e w9 ⟨rfl, hb⟩; refine ⟨_, rfl, ?_⟩; have n0_ := Aside0.mk (below_step (by repeat (first | exact HB.out | apply below_alloc | apply pw_below_drewN | apply below_drew1)) hb); clear HB; have HB := n0_; clear n0_; (try clear hb)))
   go_ret
   exact ⟨by first | rfl | (simp [errW_none, errW_some] <;> rfl) | (simp [*, errW_none, errW_some] <;> rfl), by repeat (first | (with_reducible first | exact HB.out | apply below_alloc | apply pw_below_drewN | apply below_drew1) | exact HB.out)⟩
 ·rw [if_neg c4] at H
  have c4b0 : (t335.toList == t333.toList) = false := beq_eq_false_iff_ne.mpr c4
  have c4b1 : (t335.toList != t333.toList) = true := bne_iff_ne.mpr c4
  obtain rfl := Option.some.inj H
  go_enter Tryz.func6, Tryz.ntmps6
  go_wp2_with (first | ((with_reducible refine gate_callee (f := 25) rfl ?_); refine goesL_ (some 9) rfl rfl Tryz.func25 (by kernel_rfl) rfl #[.int .u64 a0] rfl (by (try simp only [List.map_toArray, List.map_cons, List.map_nil]) <;> rfl) ?_; (with_reducible refine (spec_Shortest.calls k a0 t333 t334 _ A2.out).mono ?_); rintro e w10 ⟨rfl, hb⟩; refine ⟨_, rfl, ?_⟩; have n0_ := Aside0.mk (below_step (by repeat (first | exact HB.out | apply below_alloc | apply pw_below_drewN | apply below_drew1)) hb); clear HB; have HB := n0_; clear n0_; (try clear hb)) | ((with_reducible refine gate_callee (f := 26) rfl ?_); refine goesL_ (some 14) rfl rfl Tryz.func26 (by kernel_rfl) rfl #[.int .u64 a0] rfl (by (try simp only [List.map_toArray, List.map_cons, List.map_nil]) <;> rfl) ?_; (with_reducible refine (impl_Shortest.calls k a0 t335 t336 _ (hm.below (by repeat (first | (with_reducible first | exact HB.out | apply below_alloc | apply pw_below_drewN | apply below_drew1) | refine Below.setCell ?_ (Aside0.out (by assumption)) _ | exact HB.out))) A3.out).mono ?_); rintro e w11 ⟨rfl, hb⟩; refine ⟨_, rfl, ?_⟩; have n0_ := Aside0.mk (below_step (by repeat (first | exact HB.out | apply below_alloc | apply pw_below_drewN | apply below_drew1)) hb); clear HB; have HB := n0_; clear n0_; (try clear hb)))
  go_ret
  exact ⟨by first | rfl | (simp [errW_none, errW_some] <;> rfl) | (simp [*, errW_none, errW_some] <;> rfl), by repeat (first | (with_reducible first | exact HB.out | apply below_alloc | apply pw_below_drewN | apply below_drew1) | exact HB.out)⟩

def laws_FnExactShortest.Pure : Prop := ∀ (a0 : Int), (Lit.int .u64 a0).wf = true → ∃ k, laws_FnExactShortest.f k a0 = some true
theorem laws_FnExactShortest.walk (P : laws_FnExactShortest.Pure) (a0 : Int) (w : World) (hm : Go.Proofs.YtkjpelgdppmbjaaGreatDoor.G.Homey w) (w0 : (Lit.int .u64 a0).wf = true) :
  Calls Tryz.prog 6 #[.int .u64 a0] w fun e w' => e = .returned (.bool true) ∧ Below w.heap.size w w' := by
 obtain ⟨k, h⟩ := P a0 w0
 refine (laws_FnExactShortest.calls k a0 true w hm h).mono ?_
 rintro e w' ⟨rfl, hd⟩
 exact ⟨rfl, hd⟩

end
end Go.Proofs.YtkjpelgdppmbjaaGreatDoor.MFnExactShortest
