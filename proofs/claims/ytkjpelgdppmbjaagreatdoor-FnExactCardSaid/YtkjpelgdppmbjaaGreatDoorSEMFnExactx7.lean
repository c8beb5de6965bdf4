-- by this session's own program mp.py over the kit's printer
import Derived.Test.YtkjpelgdppmbjaaGreatDoorSEMFnExactx0
import Derived.Test.YtkjpelgdppmbjaaGreatDoorSEMFnExactx1
import Derived.Test.YtkjpelgdppmbjaaGreatDoorSEMFnExactx3
import Derived.Test.YtkjpelgdppmbjaaGreatDoorSEMFnExactx4
import Derived.Test.YtkjpelgdppmbjaaGreatDoorSEMFnExactx6
namespace Go.Proofs.YtkjpelgdppmbjaaGreatDoor.MFnExact
open Go.RowKit Go.Proofs.YtkjpelgdppmbjaaGreatDoorW.PrintWords Go.Proofs.YtkjpelgdppmbjaaGreatDoorW.PrintLast Go.Proofs.YtkjpelgdppmbjaaGreatDoorW.PrintMore
noncomputable section
attribute [local go_sem] max2_int min2_int max_two min_two max_three min_three max_four min_four
set_option linter.unusedVariables false
set_option linter.unusedSimpArgs false

mutual
def laws_FnExact.j0 : Nat → ByteArray → Int → Bool → Int → Bool → Int → Int → Option (Bool)
 | 0, _, _, _, _, _, _, _ => none
 | k + 1, x6, x7, x77, x306000, x306001, x306002, x306003 => if x77 = true then (some false) else (if x306003 < (-60) then (laws_FnExact.j1 k x6 x7 true x306000 x306001 x306002 x306003) else (if x306003 > 60 then (laws_FnExact.j1 k x6 x7 true x306000 x306001 x306002 x306003) else (laws_FnExact.j1 k x6 x7 (decide (x7 > 1000)) x306000 x306001 x306002 x306003)))
def laws_FnExact.j1 : Nat → ByteArray → Int → Bool → Int → Bool → Int → Int → Option (Bool)
 | 0, _, _, _, _, _, _, _ => none
 | k + 1, x6, x7, x89, x306000, x306001, x306002, x306003 => if x89 = true then (if x7 ≤ 400 then (some (decide (x7 ≥ (-1074)))) else (some false)) else ((spec_Decimal.f k (wrap64 (x306002))).bind fun t309 => (if x7 < 0 then ((spec_GreatPower.f k 10 (wrap64 (-x7))).bind fun bt310 => ((spec_GreatMul.f k t309 bt310.1).bind fun bt312 => (laws_FnExact.j2 k x6 bt312.1 x306000 x306001 x306002 x306003))) else ((spec_GreatPower.f k 10 x7).bind fun bt314 => ((spec_GreatMul.f k x6 bt314.1).bind fun bt316 => (laws_FnExact.j2 k bt316.1 t309 x306000 x306001 x306002 x306003)))))
def laws_FnExact.j2 : Nat → ByteArray → ByteArray → Int → Bool → Int → Int → Option (Bool)
 | 0, _, _, _, _, _, _ => none
 | k + 1, x11, x12, x306000, x306001, x306002, x306003 => if x306003 ≥ 0 then ((spec_GreatPower.f k 2 x306003).bind fun bt318 => ((spec_GreatMul.f k x12 bt318.1).bind fun bt320 => (some (x11.toList == bt320.1.toList)))) else ((spec_GreatPower.f k 2 (wrap64 (-x306003))).bind fun bt322 => ((spec_GreatMul.f k x11 bt322.1).bind fun bt324 => (some (bt324.1.toList == x12.toList))))
end
def laws_FnExact.f (k : Nat) (l0 : List Int) : Option (Bool) := (laws_big.f l0).bind fun t295 => (if t295 = true then (some true) else ((spec_DrawNumbers.f k l0).bind fun bt296 => ((impl_Exact.f k bt296.1).bind fun bt299 => ((spec_PartsOfNumber.f k bt296.1).bind fun bt301 => (if bt301.1 = 4 then ((impl_Exact.f k (Int.tmod bt296.1 9223372036854775808)).bind fun bt306 => (if bt306.1.toList = bt299.1.toList then (if bt306.2 = bt299.2 then (if (bt299.1.size : Int) = 0 then (laws_FnExact.j0 k bt299.1 bt299.2 true bt301.1 bt301.2.1 bt301.2.2.1 bt301.2.2.2) else (if 0 ≤ (wrap64 ((bt299.1.size : Int) - 1)) then (if (wrap64 ((bt299.1.size : Int) - 1)) < (bt299.1.size : Int) then (if (bt bt299.1 (wrap64 ((bt299.1.size : Int) - 1))) = 48 then (laws_FnExact.j0 k bt299.1 bt299.2 true bt301.1 bt301.2.1 bt301.2.2.1 bt301.2.2.2) else ((spec_FiguresOk.f k bt299.1).bind fun t308 => (laws_FnExact.j0 k bt299.1 bt299.2 (!t308) bt301.1 bt301.2.1 bt301.2.2.1 bt301.2.2.2))) else (none)) else (none))) else (laws_FnExact.j0 k bt299.1 bt299.2 true bt301.1 bt301.2.1 bt301.2.2.1 bt301.2.2.2)) else (laws_FnExact.j0 k bt299.1 bt299.2 true bt301.1 bt301.2.1 bt301.2.2.1 bt301.2.2.2))) else (if bt299.1.toList = ([] : List UInt8) then (some (bt299.2 == 0)) else (some false)))))))
theorem laws_FnExact.mono_l : ∀ k, (∀ y0 y1 y2 y3 y4 y5 y6, LeO (laws_FnExact.j0 k y0 y1 y2 y3 y4 y5 y6) (laws_FnExact.j0 (k + 1) y0 y1 y2 y3 y4 y5 y6)) ∧ (∀ y0 y1 y2 y3 y4 y5 y6, LeO (laws_FnExact.j1 k y0 y1 y2 y3 y4 y5 y6) (laws_FnExact.j1 (k + 1) y0 y1 y2 y3 y4 y5 y6)) ∧ (∀ y0 y1 y2 y3 y4 y5, LeO (laws_FnExact.j2 k y0 y1 y2 y3 y4 y5) (laws_FnExact.j2 (k + 1) y0 y1 y2 y3 y4 y5))
  | 0 => ⟨fun _ _ _ _ _ _ _ r h => by simp [laws_FnExact.j0] at h, fun _ _ _ _ _ _ _ r h => by simp [laws_FnExact.j1] at h, fun _ _ _ _ _ _ r h => by simp [laws_FnExact.j2] at h⟩
  | k + 1 => by
    obtain ⟨ih0, ih1, ih2⟩ := laws_FnExact.mono_l k
    refine ⟨?_, ?_, ?_⟩
    · intro y0 y1 y2 y3 y4 y5 y6
      unfold laws_FnExact.j0
      repeat' first
      | (with_reducible exact ih0 _ _ _ _ _ _ _)
      | (with_reducible exact ih1 _ _ _ _ _ _ _)
      | (with_reducible exact ih2 _ _ _ _ _ _)
      | (with_reducible exact impl_Exact.mono _ _)
      | (with_reducible exact spec_Decimal.mono _ _)
      | (with_reducible exact spec_DrawNumbers.mono _ _)
      | (with_reducible exact spec_FiguresOk.mono _ _)
      | (with_reducible exact spec_GreatMul.mono _ _ _)
      | (with_reducible exact spec_GreatPower.mono _ _ _)
      | (with_reducible exact spec_PartsOfNumber.mono _ _)
      | (with_reducible exact LeO.refl _)
      | (with_reducible exact LeO.none _)
      | (with_reducible refine LeO.ite ?_ ?_)
      | (with_reducible refine LeO.bind ?_ (fun _ => ?_))
    · intro y0 y1 y2 y3 y4 y5 y6
      unfold laws_FnExact.j1
      repeat' first
      | (with_reducible exact ih0 _ _ _ _ _ _ _)
      | (with_reducible exact ih1 _ _ _ _ _ _ _)
      | (with_reducible exact ih2 _ _ _ _ _ _)
      | (with_reducible exact impl_Exact.mono _ _)
      | (with_reducible exact spec_Decimal.mono _ _)
      | (with_reducible exact spec_DrawNumbers.mono _ _)
      | (with_reducible exact spec_FiguresOk.mono _ _)
      | (with_reducible exact spec_GreatMul.mono _ _ _)
      | (with_reducible exact spec_GreatPower.mono _ _ _)
      | (with_reducible exact spec_PartsOfNumber.mono _ _)
      | (with_reducible exact LeO.refl _)
      | (with_reducible exact LeO.none _)
      | (with_reducible refine LeO.ite ?_ ?_)
      | (with_reducible refine LeO.bind ?_ (fun _ => ?_))
    · intro y0 y1 y2 y3 y4 y5
      unfold laws_FnExact.j2
      repeat' first
      | (with_reducible exact ih0 _ _ _ _ _ _ _)
      | (with_reducible exact ih1 _ _ _ _ _ _ _)
      | (with_reducible exact ih2 _ _ _ _ _ _)
      | (with_reducible exact impl_Exact.mono _ _)
      | (with_reducible exact spec_Decimal.mono _ _)
      | (with_reducible exact spec_DrawNumbers.mono _ _)
      | (with_reducible exact spec_FiguresOk.mono _ _)
      | (with_reducible exact spec_GreatMul.mono _ _ _)
      | (with_reducible exact spec_GreatPower.mono _ _ _)
      | (with_reducible exact spec_PartsOfNumber.mono _ _)
      | (with_reducible exact LeO.refl _)
      | (with_reducible exact LeO.none _)
      | (with_reducible refine LeO.ite ?_ ?_)
      | (with_reducible refine LeO.bind ?_ (fun _ => ?_))
theorem laws_FnExact.mono : ∀ a0 k, LeO (laws_FnExact.f k a0) (laws_FnExact.f (k + 1) a0) := by
 intro a0 k
 obtain ⟨ih0, ih1, ih2⟩ := laws_FnExact.mono_l k
 unfold laws_FnExact.f
 repeat' first
   | (with_reducible exact ih0 _ _ _ _ _ _ _)
   | (with_reducible exact ih1 _ _ _ _ _ _ _)
   | (with_reducible exact ih2 _ _ _ _ _ _)
   | (with_reducible exact impl_Exact.mono _ _)
   | (with_reducible exact spec_Decimal.mono _ _)
   | (with_reducible exact spec_DrawNumbers.mono _ _)
   | (with_reducible exact spec_FiguresOk.mono _ _)
   | (with_reducible exact spec_GreatMul.mono _ _ _)
   | (with_reducible exact spec_GreatPower.mono _ _ _)
   | (with_reducible exact spec_PartsOfNumber.mono _ _)
   | (with_reducible exact LeO.refl _)
   | (with_reducible exact LeO.none _)
   | (with_reducible refine LeO.ite ?_ ?_)
   | (with_reducible refine LeO.bind ?_ (fun _ => ?_))
set_option maxHeartbeats 8000000 in
set_option maxRecDepth 100000 in
theorem laws_FnExact.calls (k : Nat) (A0 : Option Addr) (c0 : Nat) (l0 : List Int) (r : Bool) (w : World) (hm : Go.Proofs.YtkjpelgdppmbjaaGreatDoor.G.Homey w) (hr0 : Kd.C (Kd.int .u8) w A0 l0.length l0) (hc0 : l0.length ≤ c0) (h : laws_FnExact.f k l0 = some r) :
  Calls Tryz.prog 5 #[.slice A0 l0.length c0] w fun e w' => e = .returned (.bool r) ∧ Below w.heap.size w w' := by
 have hu35 := Tryz.underlying35
 have HR0 := Aside0.mk hr0
 have HC0 := Aside0.mk hc0
 clear hr0 hc0
 have HB := Aside0.mk (Below.refl w.heap.size w)
 have H : ((laws_big.f l0).bind fun t295 => (if t295 = true then (some true) else ((spec_DrawNumbers.f k l0).bind fun bt296 => ((impl_Exact.f k bt296.1).bind fun bt299 => ((spec_PartsOfNumber.f k bt296.1).bind fun bt301 => (if bt301.1 = 4 then ((impl_Exact.f k (Int.tmod bt296.1 9223372036854775808)).bind fun bt306 => (if bt306.1.toList = bt299.1.toList then (if bt306.2 = bt299.2 then (if (bt299.1.size : Int) = 0 then (laws_FnExact.j0 k bt299.1 bt299.2 true bt301.1 bt301.2.1 bt301.2.2.1 bt301.2.2.2) else (if 0 ≤ (wrap64 ((bt299.1.size : Int) - 1)) then (if (wrap64 ((bt299.1.size : Int) - 1)) < (bt299.1.size : Int) then (if (bt bt299.1 (wrap64 ((bt299.1.size : Int) - 1))) = 48 then (laws_FnExact.j0 k bt299.1 bt299.2 true bt301.1 bt301.2.1 bt301.2.2.1 bt301.2.2.2) else ((spec_FiguresOk.f k bt299.1).bind fun t308 => (laws_FnExact.j0 k bt299.1 bt299.2 (!t308) bt301.1 bt301.2.1 bt301.2.2.1 bt301.2.2.2))) else (none)) else (none))) else (laws_FnExact.j0 k bt299.1 bt299.2 true bt301.1 bt301.2.1 bt301.2.2.1 bt301.2.2.2)) else (laws_FnExact.j0 k bt299.1 bt299.2 true bt301.1 bt301.2.1 bt301.2.2.1 bt301.2.2.2))) else (if bt299.1.toList = ([] : List UInt8) then (some (bt299.2 == 0)) else (some false)))))))) = some r := h
 clear h
 replace H := Option.bind_eq_some_iff.mp H
 obtain ⟨t295, A20, H⟩ := H
 try dsimp only at H
 have A2 := Aside0.mk A20
 clear A20
 by_cases c3 : t295 = true
 ·subst c3
  have H1 : (some true) = some r := by rw [if_pos rfl] at H; exact H
  clear H
  have H := H1
  clear H1
  obtain rfl := Option.some.inj H
  go_enter Tryz.func5, Tryz.ntmps5
  go_wp2_with (first | ((with_reducible refine gate_callee (f := 12) rfl ?_); refine goesL_ (some 23) rfl rfl Tryz.func12 (by kernel_rfl) rfl #[.slice A0 l0.length c0] rfl (by (try simp only [List.map_toArray, List.map_cons, List.map_nil]) <;> rfl) ?_; (with_reducible refine (laws_big.calls _ _ l0 true _ ?side1 ?side2 A2.out).mono ?_); (case side1 => repeat (first | exact HR0.out | (with_reducible refine Kd.C_alloc ?_ _) | (with_reducible refine Kd.C_drewN ?_ _) | (with_reducible refine Kd.C_drew ?_))); (case side2 => exact HC0.out); rintro e w' ⟨rfl, ⟨nd, rfl⟩⟩; refine ⟨_, rfl, ?_⟩))
  go_ret
  exact ⟨by first | rfl | (simp [errW_none, errW_some] <;> rfl) | (simp [*, errW_none, errW_some] <;> rfl), by repeat (first | (with_reducible first | exact HB.out | apply below_alloc | apply pw_below_drewN | apply below_drew1) | exact HB.out)⟩
 ·replace c3 := Bool.eq_false_iff.mpr c3
  subst c3
  have H1 := H
  rw [if_neg (show ¬ (false = true) by decide)] at H1
  clear H
  have H := H1
  clear H1
  replace H := Option.bind_eq_some_iff.mp H
  obtain ⟨⟨t296, t297, t298⟩, A40, H⟩ := H
  try dsimp only at H
  have A4 := Aside0.mk A40
  clear A40
  replace H := Option.bind_eq_some_iff.mp H
  obtain ⟨⟨t299, t300⟩, A50, H⟩ := H
  try dsimp only at H
  have A5 := Aside0.mk A50
  clear A50
  replace H := Option.bind_eq_some_iff.mp H
  obtain ⟨⟨t301, t302, t303, t304⟩, A60, H⟩ := H
  try dsimp only at H
  have A6 := Aside0.mk A60
  clear A60
  by_cases c7 : t301 = 4
  ·rw [if_pos c7] at H
   have c7b0 : (t301 == 4) = true := beq_iff_eq.mpr c7
   have c7b1 : (t301 != 4) = false := bne_eq_false_iff_eq.mpr c7
   clear c7
   replace H := Option.bind_eq_some_iff.mp H
   obtain ⟨⟨t306, t307⟩, A80, H⟩ := H
   try dsimp only at H
   have A8 := Aside0.mk A80
   clear A80
   have HC9 := Aside0.mk H
   clear H
   go_enter Tryz.func5, Tryz.ntmps5
   go_upto_region 9 with (first | ((with_reducible refine gate_callee (f := 12) rfl ?_); refine goesL_ (some 23) rfl rfl Tryz.func12 (by kernel_rfl) rfl #[.slice A0 l0.length c0] rfl (by (try simp only [List.map_toArray, List.map_cons, List.map_nil]) <;> rfl) ?_; (with_reducible refine (laws_big.calls _ _ l0 false _ ?side1 ?side2 A2.out).mono ?_); (case side1 => repeat (first | exact HR0.out | (with_reducible refine Kd.C_alloc ?_ _) | (with_reducible refine Kd.C_drewN ?_ _) | (with_reducible refine Kd.C_drew ?_))); (case side2 => exact HC0.out); rintro e w' ⟨rfl, ⟨nd, rfl⟩⟩; refine ⟨_, rfl, ?_⟩) | ((with_reducible refine gate_callee (f := 13) rfl ?_); refine goesL_ (some 26) rfl rfl Tryz.func13 (by kernel_rfl) rfl #[.slice A0 l0.length c0] rfl (by (try simp only [List.map_toArray, List.map_cons, List.map_nil]) <;> rfl) ?_; (with_reducible refine (spec_DrawNumbers.calls k _ _ l0 t296 t297 t298 _ ?side1 ?side2 A4.out).mono ?_); (case side1 => repeat (first | exact HR0.out | (with_reducible refine Kd.C_alloc ?_ _) | (with_reducible refine Kd.C_drewN ?_ _) | (with_reducible refine Kd.C_drew ?_))); (case side2 => exact HC0.out); rintro e w10 ⟨rfl, hb⟩; refine ⟨_, rfl, ?_⟩; have n0_ := Aside0.mk (below_step (by repeat (first | exact HB.out | apply below_alloc | apply pw_below_drewN | apply below_drew1)) hb); clear HB; have HB := n0_; clear n0_; (try clear hb)) | ((with_reducible refine gate_callee (f := 19) rfl ?_); refine goesL_ (some 32) rfl rfl Tryz.func19 (by kernel_rfl) rfl #[.int .u64 t296] rfl (by (try simp only [List.map_toArray, List.map_cons, List.map_nil]) <;> rfl) ?_; (with_reducible refine (impl_Exact.calls k t296 t299 t300 _ (hm.below (by repeat (first | (with_reducible first | exact HB.out | apply below_alloc | apply pw_below_drewN | apply below_drew1) | refine Below.setCell ?_ (Aside0.out (by assumption)) _ | exact HB.out))) A5.out).mono ?_); rintro e w11 ⟨rfl, hb⟩; refine ⟨_, rfl, ?_⟩; have n0_ := Aside0.mk (below_step (by repeat (first | exact HB.out | apply below_alloc | apply pw_below_drewN | apply below_drew1)) hb); clear HB; have HB := n0_; clear n0_; (try clear hb)) | ((with_reducible refine gate_callee (f := 20) rfl ?_); refine goesL_ (some 36) rfl rfl Tryz.func20 (by kernel_rfl) rfl #[.int .u64 t296] rfl (by (try simp only [List.map_toArray, List.map_cons, List.map_nil]) <;> rfl) ?_; (with_reducible refine (spec_PartsOfNumber.calls k t296 t301 t302 t303 t304 _ A6.out).mono ?_); rintro e w12 ⟨rfl, hb⟩; refine ⟨_, rfl, ?_⟩; have n0_ := Aside0.mk (below_step (by repeat (first | exact HB.out | apply below_alloc | apply pw_below_drewN | apply below_drew1)) hb); clear HB; have HB := n0_; clear n0_; (try clear hb)) | ((with_reducible refine gate_dst (N := 8) rfl ?_); (try (refine gate_guard (by rfl) ?_; dsimp only)); refine box_event ?hg (N := 8) ?hd (cs := #[.int .i64 0, .bool false, .int .u64 0, .int .i64 0]) (t := 35) ?hr ?_; (case hd => rfl); (case hg => rfl); (case hr => first | (go_simp; done) | (go_simp; rfl)); intro gb305 hg w13 hbox hb; have n0_ := Aside0.mk (below_step (by repeat (first | exact HB.out | apply below_alloc | apply pw_below_drewN | apply below_drew1)) hb); have n1_ := Aside0.mk (hbox); have n2_ := Aside0.mk ((by rw [hg]; exact (below_size (by repeat (first | exact HB.out | apply below_alloc | apply pw_below_drewN | apply below_drew1))) : w.heap.size ≤ gb305)); have n3_ := Aside0.mk ((by rw [hg]; exact (below_size (by repeat (first | exact HB.out | apply below_alloc | apply pw_below_drewN | apply below_drew1))) : w.heap.size ≤ gb305)); clear HB; have HB := n0_; have BK305 := n1_; have GW305 := n2_; have GE305 := n3_; clear n0_ n1_ n2_ n3_; clear hb hbox hg; have hcz14_0 : w13.cell? ⟨gb305, 0, none⟩ = some (.int .i64 0) := (blk_cell BK305.out 0).trans rfl; have hcz14_1 : w13.cell? ⟨gb305, 1, none⟩ = some (.bool false) := (blk_cell BK305.out 1).trans rfl; have hcz14_2 : w13.cell? ⟨gb305, 2, none⟩ = some (.int .u64 0) := (blk_cell BK305.out 2).trans rfl; have hcz14_3 : w13.cell? ⟨gb305, 3, none⟩ = some (.int .i64 0) := (blk_cell BK305.out 3).trans rfl; have hfz14_0 := blk_frozen BK305.out 0; have hfz14_1 := blk_frozen BK305.out 1; have hfz14_2 := blk_frozen BK305.out 2; have hfz14_3 := blk_frozen BK305.out 3) | ((with_reducible refine gate_callee (f := 19) rfl ?_); refine goesL_ (some 49) rfl rfl Tryz.func19 (by kernel_rfl) rfl #[.int .u64 (Int.tmod t296 9223372036854775808)] rfl (by (try simp only [List.map_toArray, List.map_cons, List.map_nil]) <;> rfl) ?_; (with_reducible refine (impl_Exact.calls k (Int.tmod t296 9223372036854775808) t306 t307 _ (hm.below (by repeat (first | (with_reducible first | exact HB.out | apply below_alloc | apply pw_below_drewN | apply below_drew1) | refine Below.setCell ?_ (Aside0.out (by assumption)) _ | exact HB.out))) A8.out).mono ?_); rintro e w15 ⟨rfl, hb⟩; refine ⟨_, rfl, ?_⟩; have n0_ := Aside0.mk (blk_below (g := gb305) (o := .cells #[.int .i64 t301, .bool t302, .int .u64 t303, .int .i64 t304] 35 (0, 0)) (by (with_reducible repeat (first | refine blk_drewN ?_ _ | refine blk_drew ?_ | refine blk_alloc ?_ _)); refine blk_put (cs := #[.int .i64 t301, .bool t302, .int .u64 t303, .int .i64 0]) ?_ 3 _ rfl; (with_reducible repeat (first | refine blk_drewN ?_ _ | refine blk_drew ?_ | refine blk_alloc ?_ _)); refine blk_put (cs := #[.int .i64 t301, .bool t302, .int .u64 0, .int .i64 0]) ?_ 2 _ rfl; (with_reducible repeat (first | refine blk_drewN ?_ _ | refine blk_drew ?_ | refine blk_alloc ?_ _)); refine blk_put (cs := #[.int .i64 t301, .bool false, .int .u64 0, .int .i64 0]) ?_ 1 _ rfl; (with_reducible repeat (first | refine blk_drewN ?_ _ | refine blk_drew ?_ | refine blk_alloc ?_ _)); refine blk_put (cs := #[.int .i64 0, .bool false, .int .u64 0, .int .i64 0]) ?_ 0 _ rfl; (with_reducible repeat (first | refine blk_drewN ?_ _ | refine blk_drew ?_ | refine blk_alloc ?_ _)); exact BK305.out) hb); have n1_ := Aside0.mk (below_step (by repeat (first | (with_reducible first | exact HB.out | apply below_alloc | apply pw_below_drewN | apply below_drew1 | refine below_set ?_ GE305.out) | exact HB.out)) hb); clear BK305; clear HB; have BK305 := n0_; have HB := n1_; clear n0_ n1_; (try clear hb)))
   (try simp only [Act.put, List.setIfInBounds_toArray, List.set_cons_zero, List.set_cons_succ])
   go_cut [77] (fun v77 wc => ∃ (kq : Nat) (x77_8 : Bool), v77 = .bool x77_8 ∧ Aside0 (laws_FnExact.j0 kq t299 t300 x77_8 t301 t302 t303 t304 = some r) ∧ Aside0 (kq ≤ k) ∧ Aside0 (wc.heap[gb305]? = some (.cells #[.int .i64 t301, .bool t302, .int .u64 t303, .int .i64 t304] 35 (0, 0))) ∧ Aside0 (Below w.heap.size w wc))
   case first =>
    have H := HC9.out
    clear HC9
    by_cases c16 : t306.toList = t299.toList
    ·rw [if_pos c16] at H
     have c16b0 : (t306.toList == t299.toList) = true := beq_iff_eq.mpr c16
     have c16b1 : (t306.toList != t299.toList) = false := bne_eq_false_iff_eq.mpr c16
     clear c16
     (first | rw [c16b0] | (simp only [i64_w, i32_w]; rw [c16b0]) | skip)
     by_cases c17 : t307 = t300
     ·rw [if_pos c17] at H
      have c17b0 : (t307 == t300) = true := beq_iff_eq.mpr c17
      have c17b1 : (t307 != t300) = false := bne_eq_false_iff_eq.mpr c17
      clear c17
      by_cases c18 : (t299.size : Int) = 0
      ·rw [if_pos c18] at H
       have c18b0 : ((t299.size : Int) == 0) = true := beq_iff_eq.mpr c18
       have c18b1 : ((t299.size : Int) != 0) = false := bne_eq_false_iff_eq.mpr c18
       clear c18
       have H' := Aside0.mk H
       clear H
       go_wp2
       go_meet
       case rel => exact ⟨_, (true), (by first | rfl | (simp; done) | (simp [*]; done)), H', ⟨by first | omega | exact Nat.le_refl _⟩, ⟨by (with_reducible repeat (first | refine blk_drewN ?_ _ | refine blk_drew ?_ | refine blk_alloc ?_ _)); exact BK305.out⟩, ⟨by repeat (first | (with_reducible first | exact HB.out | apply below_alloc | apply pw_below_drewN | apply below_drew1 | refine below_set ?_ GE305.out) | exact HB.out)⟩⟩
      ·rw [if_neg c18] at H
       have c18b0 : ((t299.size : Int) == 0) = false := beq_eq_false_iff_ne.mpr c18
       have c18b1 : ((t299.size : Int) != 0) = true := bne_iff_ne.mpr c18
       obtain ⟨ji19, hji19⟩ : ∃ j_ : Int, (wrap64 ((t299.size : Int) - 1)) = j_ := ⟨_, rfl⟩
       replace H : (if 0 ≤ (ji19) then (if (ji19) < (t299.size : Int) then (if (bt t299 (ji19)) = 48 then (laws_FnExact.j0 k t299 t300 true t301 t302 t303 t304) else ((spec_FiguresOk.f k t299).bind fun t308 => (laws_FnExact.j0 k t299 t300 (!t308) t301 t302 t303 t304))) else (none)) else (none)) = some r := by first | (rw [hji19] at H; exact H) | (simp only [hji19] at H ⊢; exact H)
       have hji19w : (IntKind.i64.wrap ((t299.size : Int) - 1)) = ji19 := (i64_w _).trans hji19
       by_cases c20 : 0 ≤ (ji19)
       ·rw [if_pos c20] at H
        have c20b0 : decide (0 ≤ (ji19)) = true := decide_eq_true c20
        clear c20
        by_cases c21 : (ji19) < (t299.size : Int)
        ·rw [if_pos c21] at H
         have c21b0 : decide ((ji19) < (t299.size : Int)) = true := decide_eq_true c21
         clear c21
         by_cases c23 : (bt t299 (ji19)) = 48
         ·rw [if_pos c23] at H
          have c23b0 : ((bt t299 (ji19)) == 48) = true := beq_iff_eq.mpr c23
          have c23b1 : ((bt t299 (ji19)) != 48) = false := bne_eq_false_iff_eq.mpr c23
          clear c23
          have H' := Aside0.mk H
          clear H
          have p22 : 0 ≤ ((ji19) : Int) := of_decide_eq_true (by first | (with_reducible assumption) | assumption)
          have q22 : (ji19) < (t299.size : Int) := of_decide_eq_true (by first | (with_reducible assumption) | assumption)
          have hx22 := bt_at t299 (ji19)
          replace p22 := eq_true p22
          replace q22 := eq_true q22
          go_wp2
          go_meet
          case rel => exact ⟨_, (true), (by first | rfl | (simp; done) | (simp [*]; done)), H', ⟨by first | omega | exact Nat.le_refl _⟩, ⟨by (with_reducible repeat (first | refine blk_drewN ?_ _ | refine blk_drew ?_ | refine blk_alloc ?_ _)); exact BK305.out⟩, ⟨by repeat (first | (with_reducible first | exact HB.out | apply below_alloc | apply pw_below_drewN | apply below_drew1 | refine below_set ?_ GE305.out) | exact HB.out)⟩⟩
         ·rw [if_neg c23] at H
          have c23b0 : ((bt t299 (ji19)) == 48) = false := beq_eq_false_iff_ne.mpr c23
          have c23b1 : ((bt t299 (ji19)) != 48) = true := bne_iff_ne.mpr c23
          replace H := Option.bind_eq_some_iff.mp H
          obtain ⟨t308, A240, H⟩ := H
          try dsimp only at H
          have A24 := Aside0.mk A240
          clear A240
          have H' := Aside0.mk H
          clear H
          have p22 : 0 ≤ ((ji19) : Int) := of_decide_eq_true (by first | (with_reducible assumption) | assumption)
          have q22 : (ji19) < (t299.size : Int) := of_decide_eq_true (by first | (with_reducible assumption) | assumption)
          have hx22 := bt_at t299 (ji19)
          replace p22 := eq_true p22
          replace q22 := eq_true q22
          go_wp2_with (first | (go_at_call 21; (with_reducible refine (spec_FiguresOk.calls k t299 t308 _ A24.out).mono ?_); rintro e w' ⟨rfl, ⟨nd, rfl⟩⟩))
          go_meet
          case rel => exact ⟨_, (!t308), (by first | rfl | (simp; done) | (simp [*]; done)), H', ⟨by first | omega | exact Nat.le_refl _⟩, ⟨by (with_reducible repeat (first | refine blk_drewN ?_ _ | refine blk_drew ?_ | refine blk_alloc ?_ _)); exact BK305.out⟩, ⟨by repeat (first | (with_reducible first | exact HB.out | apply below_alloc | apply pw_below_drewN | apply below_drew1 | refine below_set ?_ GE305.out) | exact HB.out)⟩⟩
        ·rw [if_neg c21] at H
         exact absurd H (by simp)
       ·rw [if_neg c20] at H
        exact absurd H (by simp)
     ·rw [if_neg c17] at H
      have c17b0 : (t307 == t300) = false := beq_eq_false_iff_ne.mpr c17
      have c17b1 : (t307 != t300) = true := bne_iff_ne.mpr c17
      have H' := Aside0.mk H
      clear H
      go_wp2
      go_meet
      case rel => exact ⟨_, (true), (by first | rfl | (simp; done) | (simp [*]; done)), H', ⟨by first | omega | exact Nat.le_refl _⟩, ⟨by (with_reducible repeat (first | refine blk_drewN ?_ _ | refine blk_drew ?_ | refine blk_alloc ?_ _)); exact BK305.out⟩, ⟨by repeat (first | (with_reducible first | exact HB.out | apply below_alloc | apply pw_below_drewN | apply below_drew1 | refine below_set ?_ GE305.out) | exact HB.out)⟩⟩
    ·rw [if_neg c16] at H
     have c16b0 : (t306.toList == t299.toList) = false := beq_eq_false_iff_ne.mpr c16
     have c16b1 : (t306.toList != t299.toList) = true := bne_iff_ne.mpr c16
     (first | rw [c16b0] | (simp only [i64_w, i32_w]; rw [c16b0]) | skip)
     have H' := Aside0.mk H
     clear H
     go_wp2
     go_meet
     case rel => exact ⟨_, (true), (by first | rfl | (simp; done) | (simp [*]; done)), H', ⟨by first | omega | exact Nat.le_refl _⟩, ⟨by (with_reducible repeat (first | refine blk_drewN ?_ _ | refine blk_drew ?_ | refine blk_alloc ?_ _)); exact BK305.out⟩, ⟨by repeat (first | (with_reducible first | exact HB.out | apply below_alloc | apply pw_below_drewN | apply below_drew1 | refine below_set ?_ GE305.out) | exact HB.out)⟩⟩
   case rest =>
    clear HC9
    try clear c1
    try clear c2
    try clear p2
    try clear q2
    try clear hx2
    try clear c3
    try clear c5
    try clear p6
    try clear c7
    try clear c7b0
    try clear c7b1
    try clear c12
    try clear c13
    try clear c16
    try clear c16b0
    try clear c16b1
    try clear c17
    try clear c17b0
    try clear c17b1
    try clear c18
    try clear c18b0
    try clear c18b1
    try clear c19
    try clear c20
    try clear c20b0
    try clear c21
    try clear c21b0
    try clear p22
    try clear q22
    try clear hx22
    try clear c23
    try clear c23b0
    try clear c23b1
    try clear hcz14_0
    try clear hcz14_1
    try clear hcz14_2
    try clear hcz14_3
    try clear hfz14_0
    try clear hfz14_1
    try clear hfz14_2
    try clear hfz14_3
    try clear p22
    try clear q22
    obtain ⟨kq, x77_8, rfl, HA, HJ8, BK305, HB⟩ := hcut
    cases kq with
    | zero => exact absurd HA.out (by simp [laws_FnExact.j0])
    | succ kj8 =>
     have H := HA.out
     clear HA
     simp only [laws_FnExact.j0] at H
     by_cases c25 : x77_8 = true
     ·subst c25
      have H1 : (some false) = some r := by rw [if_pos rfl] at H; exact H
      clear H
      have H := H1
      clear H1
      obtain rfl := Option.some.inj H
      go_wp2
      go_ret
      exact ⟨by first | rfl | (simp [errW_none, errW_some] <;> rfl) | (simp [*, errW_none, errW_some] <;> rfl), by repeat (first | (with_reducible first | exact HB.out | apply below_alloc | apply pw_below_drewN | apply below_drew1 | refine below_set ?_ GE305.out) | exact HB.out)⟩
     ·replace c25 := Bool.eq_false_iff.mpr c25
      subst c25
      have H1 := H
      rw [if_neg (show ¬ (false = true) by decide)] at H1
      clear H
      have H := H1
      clear H1
      have HC26 := Aside0.mk H
      clear H
      go_upto_region 11 with (fail)
      go_cut [89] (fun v89 wc => ∃ (kq : Nat) (x89_25 : Bool), v89 = .bool x89_25 ∧ Aside0 (laws_FnExact.j1 kq t299 t300 x89_25 t301 t302 t303 t304 = some r) ∧ Aside0 (kq ≤ kj8) ∧ Aside0 (wc.heap[gb305]? = some (.cells #[.int .i64 t301, .bool t302, .int .u64 t303, .int .i64 t304] 35 (0, 0))) ∧ Aside0 (Below w.heap.size w wc))
      case first =>
       have H := HC26.out
       clear HC26
       by_cases c27 : t304 < (-60)
       ·rw [if_pos c27] at H
        have c27b0 : decide (t304 < (-60)) = true := decide_eq_true c27
        clear c27
        (first | rw [c27b0] | (simp only [i64_w, i32_w]; rw [c27b0]) | skip)
        have H' := Aside0.mk H
        clear H
        have hcz28_0 : wc.cell? ⟨gb305, 0, none⟩ = some (.int .i64 t301) := (blk_cell BK305.out 0).trans rfl
        have hcz28_1 : wc.cell? ⟨gb305, 1, none⟩ = some (.bool t302) := (blk_cell BK305.out 1).trans rfl
        have hcz28_2 : wc.cell? ⟨gb305, 2, none⟩ = some (.int .u64 t303) := (blk_cell BK305.out 2).trans rfl
        have hcz28_3 : wc.cell? ⟨gb305, 3, none⟩ = some (.int .i64 t304) := (blk_cell BK305.out 3).trans rfl
        have hfz28_0 := blk_frozen BK305.out 0
        have hfz28_1 := blk_frozen BK305.out 1
        have hfz28_2 := blk_frozen BK305.out 2
        have hfz28_3 := blk_frozen BK305.out 3
        go_wp2
        go_meet
        case rel => exact ⟨_, (true), (by first | rfl | (simp; done) | (simp [*]; done)), H', ⟨by have := HJ8.out; first | omega | exact Nat.le_refl _⟩, ⟨by (with_reducible repeat (first | refine blk_drewN ?_ _ | refine blk_drew ?_ | refine blk_alloc ?_ _)); exact BK305.out⟩, ⟨by repeat (first | (with_reducible first | exact HB.out | apply below_alloc | apply pw_below_drewN | apply below_drew1 | refine below_set ?_ GE305.out) | exact HB.out)⟩⟩
       ·rw [if_neg c27] at H
        have c27b0 : decide (t304 < (-60)) = false := decide_eq_false c27
        clear c27
        (first | rw [c27b0] | (simp only [i64_w, i32_w]; rw [c27b0]) | skip)
        by_cases c29 : t304 > 60
        ·rw [if_pos c29] at H
         have c29b0 : decide (60 < t304) = true := decide_eq_true c29
         clear c29
         have H' := Aside0.mk H
         clear H
         have hcz30_0 : wc.cell? ⟨gb305, 0, none⟩ = some (.int .i64 t301) := (blk_cell BK305.out 0).trans rfl
         have hcz30_1 : wc.cell? ⟨gb305, 1, none⟩ = some (.bool t302) := (blk_cell BK305.out 1).trans rfl
         have hcz30_2 : wc.cell? ⟨gb305, 2, none⟩ = some (.int .u64 t303) := (blk_cell BK305.out 2).trans rfl
         have hcz30_3 : wc.cell? ⟨gb305, 3, none⟩ = some (.int .i64 t304) := (blk_cell BK305.out 3).trans rfl
         have hfz30_0 := blk_frozen BK305.out 0
         have hfz30_1 := blk_frozen BK305.out 1
         have hfz30_2 := blk_frozen BK305.out 2
         have hfz30_3 := blk_frozen BK305.out 3
         go_wp2
         go_meet
         case rel => exact ⟨_, (true), (by first | rfl | (simp; done) | (simp [*]; done)), H', ⟨by have := HJ8.out; first | omega | exact Nat.le_refl _⟩, ⟨by (with_reducible repeat (first | refine blk_drewN ?_ _ | refine blk_drew ?_ | refine blk_alloc ?_ _)); exact BK305.out⟩, ⟨by repeat (first | (with_reducible first | exact HB.out | apply below_alloc | apply pw_below_drewN | apply below_drew1 | refine below_set ?_ GE305.out) | exact HB.out)⟩⟩
        ·rw [if_neg c29] at H
         have c29b0 : decide (60 < t304) = false := decide_eq_false c29
         clear c29
         have H' := Aside0.mk H
         clear H
         have hcz31_0 : wc.cell? ⟨gb305, 0, none⟩ = some (.int .i64 t301) := (blk_cell BK305.out 0).trans rfl
         have hcz31_1 : wc.cell? ⟨gb305, 1, none⟩ = some (.bool t302) := (blk_cell BK305.out 1).trans rfl
         have hcz31_2 : wc.cell? ⟨gb305, 2, none⟩ = some (.int .u64 t303) := (blk_cell BK305.out 2).trans rfl
         have hcz31_3 : wc.cell? ⟨gb305, 3, none⟩ = some (.int .i64 t304) := (blk_cell BK305.out 3).trans rfl
         have hfz31_0 := blk_frozen BK305.out 0
         have hfz31_1 := blk_frozen BK305.out 1
         have hfz31_2 := blk_frozen BK305.out 2
         have hfz31_3 := blk_frozen BK305.out 3
         go_wp2
         go_meet
         case rel => exact ⟨_, (decide (t300 > 1000)), (by first | rfl | (simp; done) | (simp [*]; done)), H', ⟨by have := HJ8.out; first | omega | exact Nat.le_refl _⟩, ⟨by (with_reducible repeat (first | refine blk_drewN ?_ _ | refine blk_drew ?_ | refine blk_alloc ?_ _)); exact BK305.out⟩, ⟨by repeat (first | (with_reducible first | exact HB.out | apply below_alloc | apply pw_below_drewN | apply below_drew1 | refine below_set ?_ GE305.out) | exact HB.out)⟩⟩
      case rest =>
       clear HC26
       try clear c1
       try clear c2
       try clear p2
       try clear q2
       try clear hx2
       try clear c3
       try clear c5
       try clear p6
       try clear c7
       try clear c7b0
       try clear c7b1
       try clear c12
       try clear c13
       try clear c16
       try clear c16b0
       try clear c16b1
       try clear c17
       try clear c17b0
       try clear c17b1
       try clear c18
       try clear c18b0
       try clear c18b1
       try clear c19
       try clear c20
       try clear c20b0
       try clear c21
       try clear c21b0
       try clear p22
       try clear q22
       try clear hx22
       try clear c23
       try clear c23b0
       try clear c23b1
       try clear c25
       try clear c27
       try clear c27b0
       try clear c29
       try clear c29b0
       try clear hcz14_0
       try clear hcz14_1
       try clear hcz14_2
       try clear hcz14_3
       try clear hcz28_0
       try clear hcz28_1
       try clear hcz28_2
       try clear hcz28_3
       try clear hcz30_0
       try clear hcz30_1
       try clear hcz30_2
       try clear hcz30_3
       try clear hcz31_0
       try clear hcz31_1
       try clear hcz31_2
       try clear hcz31_3
       try clear hfz14_0
       try clear hfz14_1
       try clear hfz14_2
       try clear hfz14_3
       try clear hfz28_0
       try clear hfz28_1
       try clear hfz28_2
       try clear hfz28_3
       try clear hfz30_0
       try clear hfz30_1
       try clear hfz30_2
       try clear hfz30_3
       try clear hfz31_0
       try clear hfz31_1
       try clear hfz31_2
       try clear hfz31_3
       try clear p2
       try clear p22
       try clear p6
       try clear q2
       try clear q22
       obtain ⟨kq, x89_25, rfl, HA, HJ25, BK305, HB⟩ := hcut
       cases kq with
       | zero => exact absurd HA.out (by simp [laws_FnExact.j1])
       | succ kj25 =>
        have H := HA.out
        clear HA
        simp only [laws_FnExact.j1] at H
        by_cases c32 : x89_25 = true
        ·subst c32
         have H1 := H
         rw [if_pos rfl] at H1
         clear H
         have H := H1
         clear H1
         by_cases c33 : t300 ≤ 400
         ·rw [if_pos c33] at H
          have c33b0 : decide (t300 ≤ 400) = true := decide_eq_true c33
          clear c33
          obtain rfl := Option.some.inj H
          go_wp2
          go_ret
          exact ⟨by first | rfl | (simp [errW_none, errW_some] <;> rfl) | (simp [*, errW_none, errW_some] <;> rfl), by repeat (first | (with_reducible first | exact HB.out | apply below_alloc | apply pw_below_drewN | apply below_drew1 | refine below_set ?_ GE305.out) | exact HB.out)⟩
         ·rw [if_neg c33] at H
          have c33b0 : decide (t300 ≤ 400) = false := decide_eq_false c33
          clear c33
          obtain rfl := Option.some.inj H
          go_wp2
          go_ret
          exact ⟨by first | rfl | (simp [errW_none, errW_some] <;> rfl) | (simp [*, errW_none, errW_some] <;> rfl), by repeat (first | (with_reducible first | exact HB.out | apply below_alloc | apply pw_below_drewN | apply below_drew1 | refine below_set ?_ GE305.out) | exact HB.out)⟩
        ·replace c32 := Bool.eq_false_iff.mpr c32
         subst c32
         have H1 := H
         rw [if_neg (show ¬ (false = true) by decide)] at H1
         clear H
         have H := H1
         clear H1
         replace H := Option.bind_eq_some_iff.mp H
         obtain ⟨t309, A340, H⟩ := H
         try dsimp only at H
         have A34 := Aside0.mk A340
         clear A340
         have HC35 := Aside0.mk H
         clear H
         have hcz36_0 : wc.cell? ⟨gb305, 0, none⟩ = some (.int .i64 t301) := (blk_cell BK305.out 0).trans rfl
         have hcz36_1 : wc.cell? ⟨gb305, 1, none⟩ = some (.bool t302) := (blk_cell BK305.out 1).trans rfl
         have hcz36_2 : wc.cell? ⟨gb305, 2, none⟩ = some (.int .u64 t303) := (blk_cell BK305.out 2).trans rfl
         have hcz36_3 : wc.cell? ⟨gb305, 3, none⟩ = some (.int .i64 t304) := (blk_cell BK305.out 3).trans rfl
         have hfz36_0 := blk_frozen BK305.out 0
         have hfz36_1 := blk_frozen BK305.out 1
         have hfz36_2 := blk_frozen BK305.out 2
         have hfz36_3 := blk_frozen BK305.out 3
         go_upto_if 102 with (first | ((with_reducible refine gate_callee (f := 22) rfl ?_); refine goesL_ (some 100) rfl rfl Tryz.func22 (by kernel_rfl) rfl #[.int .i64 (wrap64 (t303))] rfl (by (try simp only [List.map_toArray, List.map_cons, List.map_nil]) <;> rfl) ?_; (with_reducible refine (spec_Decimal.calls kj25 (wrap64 (t303)) t309 _ A34.out).mono ?_); rintro e w37 ⟨rfl, hb⟩; refine ⟨_, rfl, ?_⟩; have n0_ := Aside0.mk (blk_below (g := gb305) (o := .cells #[.int .i64 t301, .bool t302, .int .u64 t303, .int .i64 t304] 35 (0, 0)) (by (with_reducible repeat (first | refine blk_drewN ?_ _ | refine blk_drew ?_ | refine blk_alloc ?_ _)); exact BK305.out) hb); have n1_ := Aside0.mk (below_step (by repeat (first | (with_reducible first | exact HB.out | apply below_alloc | apply pw_below_drewN | apply below_drew1 | refine below_set ?_ GE305.out) | exact HB.out)) hb); clear BK305; clear HB; have BK305 := n0_; have HB := n1_; clear n0_ n1_; (try clear hb)))
         (try simp only [Act.put, List.setIfInBounds_toArray, List.set_cons_zero, List.set_cons_succ])
         go_cut [11, 12] (fun v11 v12 wc => ∃ (kq : Nat) (x11_34 : ByteArray) (x12_34 : ByteArray), v11 = .string x11_34 ∧ v12 = .string x12_34 ∧ Aside0 (laws_FnExact.j2 kq x11_34 x12_34 t301 t302 t303 t304 = some r) ∧ Aside0 (kq ≤ kj25) ∧ Aside0 (wc.heap[gb305]? = some (.cells #[.int .i64 t301, .bool t302, .int .u64 t303, .int .i64 t304] 35 (0, 0))) ∧ Aside0 (Below w.heap.size w wc))
         case first =>
          have H := HC35.out
          clear HC35
          by_cases c38 : t300 < 0
          ·rw [if_pos c38] at H
           have c38b0 : decide (t300 < 0) = true := decide_eq_true c38
           clear c38
           (first | rw [c38b0] | (simp only [i64_w, i32_w]; rw [c38b0]) | skip)
           replace H := Option.bind_eq_some_iff.mp H
           obtain ⟨⟨t310, t311⟩, A390, H⟩ := H
           try dsimp only at H
           have A39 := Aside0.mk A390
           clear A390
           replace H := Option.bind_eq_some_iff.mp H
           obtain ⟨⟨t312, t313⟩, A400, H⟩ := H
           try dsimp only at H
           have A40 := Aside0.mk A400
           clear A400
           have H' := Aside0.mk H
           clear H
           go_wp2_with (first | ((with_reducible refine gate_callee (f := 23) rfl ?_); refine goesL_ (some 107) rfl rfl Tryz.func23 (by kernel_rfl) rfl #[.int .i64 10, .int .i64 (wrap64 (-t300))] rfl (by (try simp only [List.map_toArray, List.map_cons, List.map_nil]) <;> rfl) ?_; (with_reducible refine (spec_GreatPower.calls kj25 10 (wrap64 (-t300)) t310 t311 _ A39.out).mono ?_); rintro e w41 ⟨rfl, hb⟩; refine ⟨_, rfl, ?_⟩; have n0_ := Aside0.mk (blk_below (g := gb305) (o := .cells #[.int .i64 t301, .bool t302, .int .u64 t303, .int .i64 t304] 35 (0, 0)) (by (with_reducible repeat (first | refine blk_drewN ?_ _ | refine blk_drew ?_ | refine blk_alloc ?_ _)); exact BK305.out) hb); have n1_ := Aside0.mk (below_step (by repeat (first | (with_reducible first | exact HB.out | apply below_alloc | apply pw_below_drewN | apply below_drew1 | refine below_set ?_ GE305.out) | exact HB.out)) hb); clear BK305; clear HB; have BK305 := n0_; have HB := n1_; clear n0_ n1_; (try clear hb)) | ((with_reducible refine gate_callee (f := 24) rfl ?_); refine goesL_ (some 113) rfl rfl Tryz.func24 (by kernel_rfl) rfl #[.string t309, .string t310] rfl (by (try simp only [List.map_toArray, List.map_cons, List.map_nil]) <;> rfl) ?_; (with_reducible refine (spec_GreatMul.calls kj25 t309 t310 t312 t313 _ A40.out).mono ?_); rintro e w42 ⟨rfl, hb⟩; refine ⟨_, rfl, ?_⟩; have n0_ := Aside0.mk (blk_below (g := gb305) (o := .cells #[.int .i64 t301, .bool t302, .int .u64 t303, .int .i64 t304] 35 (0, 0)) (by (with_reducible repeat (first | refine blk_drewN ?_ _ | refine blk_drew ?_ | refine blk_alloc ?_ _)); exact BK305.out) hb); have n1_ := Aside0.mk (below_step (by repeat (first | (with_reducible first | exact HB.out | apply below_alloc | apply pw_below_drewN | apply below_drew1 | refine below_set ?_ GE305.out) | exact HB.out)) hb); clear BK305; clear HB; have BK305 := n0_; have HB := n1_; clear n0_ n1_; (try clear hb)))
           go_meet
           case rel => exact ⟨_, (t299), (t312), (by first | rfl | (simp; done) | (simp [*]; done)), (by first | rfl | (simp; done) | (simp [*]; done)), H', ⟨by have := HJ8.out; have := HJ25.out; first | omega | exact Nat.le_refl _⟩, ⟨by (with_reducible repeat (first | refine blk_drewN ?_ _ | refine blk_drew ?_ | refine blk_alloc ?_ _)); exact BK305.out⟩, ⟨by repeat (first | (with_reducible first | exact HB.out | apply below_alloc | apply pw_below_drewN | apply below_drew1 | refine below_set ?_ GE305.out) | exact HB.out)⟩⟩
          ·rw [if_neg c38] at H
           have c38b0 : decide (t300 < 0) = false := decide_eq_false c38
           clear c38
           (first | rw [c38b0] | (simp only [i64_w, i32_w]; rw [c38b0]) | skip)
           replace H := Option.bind_eq_some_iff.mp H
           obtain ⟨⟨t314, t315⟩, A430, H⟩ := H
           try dsimp only at H
           have A43 := Aside0.mk A430
           clear A430
           replace H := Option.bind_eq_some_iff.mp H
           obtain ⟨⟨t316, t317⟩, A440, H⟩ := H
           try dsimp only at H
           have A44 := Aside0.mk A440
           clear A440
           have H' := Aside0.mk H
           clear H
           go_wp2_with (first | ((with_reducible refine gate_callee (f := 23) rfl ?_); refine goesL_ (some 118) rfl rfl Tryz.func23 (by kernel_rfl) rfl #[.int .i64 10, .int .i64 t300] rfl (by (try simp only [List.map_toArray, List.map_cons, List.map_nil]) <;> rfl) ?_; (with_reducible refine (spec_GreatPower.calls kj25 10 t300 t314 t315 _ A43.out).mono ?_); rintro e w45 ⟨rfl, hb⟩; refine ⟨_, rfl, ?_⟩; have n0_ := Aside0.mk (blk_below (g := gb305) (o := .cells #[.int .i64 t301, .bool t302, .int .u64 t303, .int .i64 t304] 35 (0, 0)) (by (with_reducible repeat (first | refine blk_drewN ?_ _ | refine blk_drew ?_ | refine blk_alloc ?_ _)); exact BK305.out) hb); have n1_ := Aside0.mk (below_step (by repeat (first | (with_reducible first | exact HB.out | apply below_alloc | apply pw_below_drewN | apply below_drew1 | refine below_set ?_ GE305.out) | exact HB.out)) hb); clear BK305; clear HB; have BK305 := n0_; have HB := n1_; clear n0_ n1_; (try clear hb)) | ((with_reducible refine gate_callee (f := 24) rfl ?_); refine goesL_ (some 124) rfl rfl Tryz.func24 (by kernel_rfl) rfl #[.string t299, .string t314] rfl (by (try simp only [List.map_toArray, List.map_cons, List.map_nil]) <;> rfl) ?_; (with_reducible refine (spec_GreatMul.calls kj25 t299 t314 t316 t317 _ A44.out).mono ?_); rintro e w46 ⟨rfl, hb⟩; refine ⟨_, rfl, ?_⟩; have n0_ := Aside0.mk (blk_below (g := gb305) (o := .cells #[.int .i64 t301, .bool t302, .int .u64 t303, .int .i64 t304] 35 (0, 0)) (by (with_reducible repeat (first | refine blk_drewN ?_ _ | refine blk_drew ?_ | refine blk_alloc ?_ _)); exact BK305.out) hb); have n1_ := Aside0.mk (below_step (by repeat (first | (with_reducible first | exact HB.out | apply below_alloc | apply pw_below_drewN | apply below_drew1 | refine below_set ?_ GE305.out) | exact HB.out)) hb); clear BK305; clear HB; have BK305 := n0_; have HB := n1_; clear n0_ n1_; (try clear hb)))
           go_meet
           case rel => exact ⟨_, (t316), (t309), (by first | rfl | (simp; done) | (simp [*]; done)), (by first | rfl | (simp; done) | (simp [*]; done)), H', ⟨by have := HJ8.out; have := HJ25.out; first | omega | exact Nat.le_refl _⟩, ⟨by (with_reducible repeat (first | refine blk_drewN ?_ _ | refine blk_drew ?_ | refine blk_alloc ?_ _)); exact BK305.out⟩, ⟨by repeat (first | (with_reducible first | exact HB.out | apply below_alloc | apply pw_below_drewN | apply below_drew1 | refine below_set ?_ GE305.out) | exact HB.out)⟩⟩
         case rest =>
          clear HC35
          try clear c1
          try clear c2
          try clear p2
          try clear q2
          try clear hx2
          try clear c3
          try clear c5
          try clear p6
          try clear c7
          try clear c7b0
          try clear c7b1
          try clear c12
          try clear c13
          try clear c16
          try clear c16b0
          try clear c16b1
          try clear c17
          try clear c17b0
          try clear c17b1
          try clear c18
          try clear c18b0
          try clear c18b1
          try clear c19
          try clear c20
          try clear c20b0
          try clear c21
          try clear c21b0
          try clear c22
          try clear p22
          try clear q22
          try clear hx22
          try clear c23
          try clear c23b0
          try clear c23b1
          try clear c24
          try clear c25
          try clear c27
          try clear c27b0
          try clear c29
          try clear c29b0
          try clear c32
          try clear c33
          try clear c33b0
          try clear c38
          try clear c38b0
          try clear hcz14_0
          try clear hcz14_1
          try clear hcz14_2
          try clear hcz14_3
          try clear hcz28_0
          try clear hcz28_1
          try clear hcz28_2
          try clear hcz28_3
          try clear hcz30_0
          try clear hcz30_1
          try clear hcz30_2
          try clear hcz30_3
          try clear hcz31_0
          try clear hcz31_1
          try clear hcz31_2
          try clear hcz31_3
          try clear hcz36_0
          try clear hcz36_1
          try clear hcz36_2
          try clear hcz36_3
          try clear hfz14_0
          try clear hfz14_1
          try clear hfz14_2
          try clear hfz14_3
          try clear hfz28_0
          try clear hfz28_1
          try clear hfz28_2
          try clear hfz28_3
          try clear hfz30_0
          try clear hfz30_1
          try clear hfz30_2
          try clear hfz30_3
          try clear hfz31_0
          try clear hfz31_1
          try clear hfz31_2
          try clear hfz31_3
          try clear hfz36_0
          try clear hfz36_1
          try clear hfz36_2
          try clear hfz36_3
          try clear p2
          try clear p22
          try clear p6
          try clear q2
          try clear q22
          obtain ⟨kq, x11_34, x12_34, rfl, rfl, HA, HJ34, BK305, HB⟩ := hcut
          cases kq with
          | zero => exact absurd HA.out (by simp [laws_FnExact.j2])
          | succ kj34 =>
           have H := HA.out
           clear HA
           simp only [laws_FnExact.j2] at H
           by_cases c47 : t304 ≥ 0
           ·rw [if_pos c47] at H
            have c47b0 : decide (0 ≤ t304) = true := decide_eq_true c47
            clear c47
            replace H := Option.bind_eq_some_iff.mp H
            obtain ⟨⟨t318, t319⟩, A480, H⟩ := H
            try dsimp only at H
            have A48 := Aside0.mk A480
            clear A480
            replace H := Option.bind_eq_some_iff.mp H
            obtain ⟨⟨t320, t321⟩, A490, H⟩ := H
            replace H : (some (x11_34.toList == t320.toList)) = some r := H
            have A49 := Aside0.mk A490
            clear A490
            obtain rfl := Option.some.inj H
            have hcz50_0 : wc.cell? ⟨gb305, 0, none⟩ = some (.int .i64 t301) := (blk_cell BK305.out 0).trans rfl
            have hcz50_1 : wc.cell? ⟨gb305, 1, none⟩ = some (.bool t302) := (blk_cell BK305.out 1).trans rfl
            have hcz50_2 : wc.cell? ⟨gb305, 2, none⟩ = some (.int .u64 t303) := (blk_cell BK305.out 2).trans rfl
            have hcz50_3 : wc.cell? ⟨gb305, 3, none⟩ = some (.int .i64 t304) := (blk_cell BK305.out 3).trans rfl
            have hfz50_0 := blk_frozen BK305.out 0
            have hfz50_1 := blk_frozen BK305.out 1
            have hfz50_2 := blk_frozen BK305.out 2
            have hfz50_3 := blk_frozen BK305.out 3
            go_wp2_with (first | ((with_reducible refine gate_callee (f := 23) rfl ?_); refine goesL_ (some 133) rfl rfl Tryz.func23 (by kernel_rfl) rfl #[.int .i64 2, .int .i64 t304] rfl (by (try simp only [List.map_toArray, List.map_cons, List.map_nil]) <;> rfl) ?_; (with_reducible refine (spec_GreatPower.calls kj34 2 t304 t318 t319 _ A48.out).mono ?_); rintro e w51 ⟨rfl, hb⟩; refine ⟨_, rfl, ?_⟩; have n0_ := Aside0.mk (blk_below (g := gb305) (o := .cells #[.int .i64 t301, .bool t302, .int .u64 t303, .int .i64 t304] 35 (0, 0)) (by (with_reducible repeat (first | refine blk_drewN ?_ _ | refine blk_drew ?_ | refine blk_alloc ?_ _)); exact BK305.out) hb); have n1_ := Aside0.mk (below_step (by repeat (first | (with_reducible first | exact HB.out | apply below_alloc | apply pw_below_drewN | apply below_drew1 | refine below_set ?_ GE305.out) | exact HB.out)) hb); clear BK305; clear HB; have BK305 := n0_; have HB := n1_; clear n0_ n1_; (try clear hb)) | ((with_reducible refine gate_callee (f := 24) rfl ?_); refine goesL_ (some 139) rfl rfl Tryz.func24 (by kernel_rfl) rfl #[.string x12_34, .string t318] rfl (by (try simp only [List.map_toArray, List.map_cons, List.map_nil]) <;> rfl) ?_; (with_reducible refine (spec_GreatMul.calls kj34 x12_34 t318 t320 t321 _ A49.out).mono ?_); rintro e w52 ⟨rfl, hb⟩; refine ⟨_, rfl, ?_⟩; have n0_ := Aside0.mk (blk_below (g := gb305) (o := .cells #[.int .i64 t301, .bool t302, .int .u64 t303, .int .i64 t304] 35 (0, 0)) (by (with_reducible repeat (first | refine blk_drewN ?_ _ | refine blk_drew ?_ | refine blk_alloc ?_ _)); exact BK305.out) hb); have n1_ := Aside0.mk (below_step (by repeat (first | (with_reducible first | exact HB.out | apply below_alloc | apply pw_below_drewN | apply below_drew1 | refine below_set ?_ GE305.out) | exact HB.out)) hb); clear BK305; clear HB; have BK305 := n0_; have HB := n1_; clear n0_ n1_; (try clear hb)))
            go_ret
            exact ⟨by first | rfl | (simp [errW_none, errW_some] <;> rfl) | (simp [*, errW_none, errW_some] <;> rfl), by repeat (first | (with_reducible first | exact HB.out | apply below_alloc | apply pw_below_drewN | apply below_drew1 | refine below_set ?_ GE305.out) | exact HB.out)⟩
           ·rw [if_neg c47] at H
            have c47b0 : decide (0 ≤ t304) = false := decide_eq_false c47
            clear c47
            replace H := Option.bind_eq_some_iff.mp H
            obtain ⟨⟨t322, t323⟩, A530, H⟩ := H
            try dsimp only at H
            have A53 := Aside0.mk A530
            clear A530
            replace H := Option.bind_eq_some_iff.mp H
            obtain ⟨⟨t324, t325⟩, A540, H⟩ := H
            replace H : (some (t324.toList == x12_34.toList)) = some r := H
            have A54 := Aside0.mk A540
            clear A540
            obtain rfl := Option.some.inj H
            have hcz55_0 : wc.cell? ⟨gb305, 0, none⟩ = some (.int .i64 t301) := (blk_cell BK305.out 0).trans rfl
            have hcz55_1 : wc.cell? ⟨gb305, 1, none⟩ = some (.bool t302) := (blk_cell BK305.out 1).trans rfl
            have hcz55_2 : wc.cell? ⟨gb305, 2, none⟩ = some (.int .u64 t303) := (blk_cell BK305.out 2).trans rfl
            have hcz55_3 : wc.cell? ⟨gb305, 3, none⟩ = some (.int .i64 t304) := (blk_cell BK305.out 3).trans rfl
            have hfz55_0 := blk_frozen BK305.out 0
            have hfz55_1 := blk_frozen BK305.out 1
            have hfz55_2 := blk_frozen BK305.out 2
            have hfz55_3 := blk_frozen BK305.out 3
            go_wp2_with (first | ((with_reducible refine gate_callee (f := 23) rfl ?_); refine goesL_ (some 146) rfl rfl Tryz.func23 (by kernel_rfl) rfl #[.int .i64 2, .int .i64 (wrap64 (-t304))] rfl (by (try simp only [List.map_toArray, List.map_cons, List.map_nil]) <;> rfl) ?_; (with_reducible refine (spec_GreatPower.calls kj34 2 (wrap64 (-t304)) t322 t323 _ A53.out).mono ?_); rintro e w56 ⟨rfl, hb⟩; refine ⟨_, rfl, ?_⟩; have n0_ := Aside0.mk (blk_below (g := gb305) (o := .cells #[.int .i64 t301, .bool t302, .int .u64 t303, .int .i64 t304] 35 (0, 0)) (by (with_reducible repeat (first | refine blk_drewN ?_ _ | refine blk_drew ?_ | refine blk_alloc ?_ _)); exact BK305.out) hb); have n1_ := Aside0.mk (below_step (by repeat (first | (with_reducible first | exact HB.out | apply below_alloc | apply pw_below_drewN | apply below_drew1 | refine below_set ?_ GE305.out) | exact HB.out)) hb); clear BK305; clear HB; have BK305 := n0_; have HB := n1_; clear n0_ n1_; (try clear hb)) | ((with_reducible refine gate_callee (f := 24) rfl ?_); refine goesL_ (some 152) rfl rfl Tryz.func24 (by kernel_rfl) rfl #[.string x11_34, .string t322] rfl (by (try simp only [List.map_toArray, List.map_cons, List.map_nil]) <;> rfl) ?_; (with_reducible refine (spec_GreatMul.calls kj34 x11_34 t322 t324 t325 _ A54.out).mono ?_); rintro e w57 ⟨rfl, hb⟩; refine ⟨_, rfl, ?_⟩; have n0_ := Aside0.mk (blk_below (g := gb305) (o := .cells #[.int .i64 t301, .bool t302, .int .u64 t303, .int .i64 t304] 35 (0, 0)) (by (with_reducible repeat (first | refine blk_drewN ?_ _ | refine blk_drew ?_ | refine blk_alloc ?_ _)); exact BK305.out) hb); have n1_ := Aside0.mk (below_step (by repeat (first | (with_reducible first | exact HB.out | apply below_alloc | apply pw_below_drewN | apply below_drew1 | refine below_set ?_ GE305.out) | exact HB.out)) hb); clear BK305; clear HB; have BK305 := n0_; have HB := n1_; clear n0_ n1_; (try clear hb)))
            go_ret
            exact ⟨by first | rfl | (simp [errW_none, errW_some] <;> rfl) | (simp [*, errW_none, errW_some] <;> rfl), by repeat (first | (with_reducible first | exact HB.out | apply below_alloc | apply pw_below_drewN | apply below_drew1 | refine below_set ?_ GE305.out) | exact HB.out)⟩
  ·rw [if_neg c7] at H
   have c7b0 : (t301 == 4) = false := beq_eq_false_iff_ne.mpr c7
   have c7b1 : (t301 != 4) = true := bne_iff_ne.mpr c7
   by_cases c58 : t299.toList = ([] : List UInt8)
   ·rw [if_pos c58] at H
    have c58b0 : (t299.toList == ([] : List UInt8)) = true := beq_iff_eq.mpr c58
    have c58b1 : (t299.toList != ([] : List UInt8)) = false := bne_eq_false_iff_eq.mpr c58
    clear c58
    obtain rfl := Option.some.inj H
    go_enter Tryz.func5, Tryz.ntmps5
    go_wp2_with (first | ((with_reducible refine gate_callee (f := 12) rfl ?_); refine goesL_ (some 23) rfl rfl Tryz.func12 (by kernel_rfl) rfl #[.slice A0 l0.length c0] rfl (by (try simp only [List.map_toArray, List.map_cons, List.map_nil]) <;> rfl) ?_; (with_reducible refine (laws_big.calls _ _ l0 false _ ?side1 ?side2 A2.out).mono ?_); (case side1 => repeat (first | exact HR0.out | (with_reducible refine Kd.C_alloc ?_ _) | (with_reducible refine Kd.C_drewN ?_ _) | (with_reducible refine Kd.C_drew ?_))); (case side2 => exact HC0.out); rintro e w' ⟨rfl, ⟨nd, rfl⟩⟩; refine ⟨_, rfl, ?_⟩) | ((with_reducible refine gate_callee (f := 13) rfl ?_); refine goesL_ (some 26) rfl rfl Tryz.func13 (by kernel_rfl) rfl #[.slice A0 l0.length c0] rfl (by (try simp only [List.map_toArray, List.map_cons, List.map_nil]) <;> rfl) ?_; (with_reducible refine (spec_DrawNumbers.calls k _ _ l0 t296 t297 t298 _ ?side1 ?side2 A4.out).mono ?_); (case side1 => repeat (first | exact HR0.out | (with_reducible refine Kd.C_alloc ?_ _) | (with_reducible refine Kd.C_drewN ?_ _) | (with_reducible refine Kd.C_drew ?_))); (case side2 => exact HC0.out); rintro e w59 ⟨rfl, hb⟩; refine ⟨_, rfl, ?_⟩; have n0_ := Aside0.mk (below_step (by repeat (first | exact HB.out | apply below_alloc | apply pw_below_drewN | apply below_drew1)) hb); clear HB; have HB := n0_; clear n0_; (try clear hb)) | ((with_reducible refine gate_callee (f := 19) rfl ?_); refine goesL_ (some 32) rfl rfl Tryz.func19 (by kernel_rfl) rfl #[.int .u64 t296] rfl (by (try simp only [List.map_toArray, List.map_cons, List.map_nil]) <;> rfl) ?_; (with_reducible refine (impl_Exact.calls k t296 t299 t300 _ (hm.below (by repeat (first | (with_reducible first | exact HB.out | apply below_alloc | apply pw_below_drewN | apply below_drew1) | refine Below.setCell ?_ (Aside0.out (by assumption)) _ | exact HB.out))) A5.out).mono ?_); rintro e w60 ⟨rfl, hb⟩; refine ⟨_, rfl, ?_⟩; have n0_ := Aside0.mk (below_step (by repeat (first | exact HB.out | apply below_alloc | apply pw_below_drewN | apply below_drew1)) hb); clear HB; have HB := n0_; clear n0_; (try clear hb)) | ((with_reducible refine gate_callee (f := 20) rfl ?_); refine goesL_ (some 36) rfl rfl Tryz.func20 (by kernel_rfl) rfl #[.int .u64 t296] rfl (by (try simp only [List.map_toArray, List.map_cons, List.map_nil]) <;> rfl) ?_; (with_reducible refine (spec_PartsOfNumber.calls k t296 t301 t302 t303 t304 _ A6.out).mono ?_); rintro e w61 ⟨rfl, hb⟩; refine ⟨_, rfl, ?_⟩; have n0_ := Aside0.mk (below_step (by repeat (first | exact HB.out | apply below_alloc | apply pw_below_drewN | apply below_drew1)) hb); clear HB; have HB := n0_; clear n0_; (try clear hb)) | ((with_reducible refine gate_dst (N := 8) rfl ?_); (try (refine gate_guard (by rfl) ?_; dsimp only)); refine box_event ?hg (N := 8) ?hd (cs := #[.int .i64 0, .bool false, .int .u64 0, .int .i64 0]) (t := 35) ?hr ?_; (case hd => rfl); (case hg => rfl); (case hr => first | (go_simp; done) | (go_simp; rfl)); intro gb305 hg w62 hbox hb; have n0_ := Aside0.mk (below_step (by repeat (first | exact HB.out | apply below_alloc | apply pw_below_drewN | apply below_drew1)) hb); have n1_ := Aside0.mk (hbox); have n2_ := Aside0.mk ((by rw [hg]; exact (below_size (by repeat (first | exact HB.out | apply below_alloc | apply pw_below_drewN | apply below_drew1))) : w.heap.size ≤ gb305)); have n3_ := Aside0.mk ((by rw [hg]; exact (below_size (by repeat (first | exact HB.out | apply below_alloc | apply pw_below_drewN | apply below_drew1))) : w.heap.size ≤ gb305)); clear HB; have HB := n0_; have BK305 := n1_; have GW305 := n2_; have GE305 := n3_; clear n0_ n1_ n2_ n3_; clear hb hbox hg; have hcz63_0 : w62.cell? ⟨gb305, 0, none⟩ = some (.int .i64 0) := (blk_cell BK305.out 0).trans rfl; have hcz63_1 : w62.cell? ⟨gb305, 1, none⟩ = some (.bool false) := (blk_cell BK305.out 1).trans rfl; have hcz63_2 : w62.cell? ⟨gb305, 2, none⟩ = some (.int .u64 0) := (blk_cell BK305.out 2).trans rfl; have hcz63_3 : w62.cell? ⟨gb305, 3, none⟩ = some (.int .i64 0) := (blk_cell BK305.out 3).trans rfl; have hfz63_0 := blk_frozen BK305.out 0; have hfz63_1 := blk_frozen BK305.out 1; have hfz63_2 := blk_frozen BK305.out 2; have hfz63_3 := blk_frozen BK305.out 3))
    go_ret
    exact ⟨by first | rfl | (simp [errW_none, errW_some] <;> rfl) | (simp [*, errW_none, errW_some] <;> rfl), by repeat (first | (with_reducible first | exact HB.out | apply below_alloc | apply pw_below_drewN | apply below_drew1 | refine below_set ?_ GE305.out) | exact HB.out)⟩
   ·rw [if_neg c58] at H
    have c58b0 : (t299.toList == ([] : List UInt8)) = false := beq_eq_false_iff_ne.mpr c58
    have c58b1 : (t299.toList != ([] : List UInt8)) = true := bne_iff_ne.mpr c58
    obtain rfl := Option.some.inj H
    go_enter Tryz.func5, Tryz.ntmps5
    go_wp2_with (first | ((with_reducible refine gate_callee (f := 12) rfl ?_); refine goesL_ (some 23) rfl rfl Tryz.func12 (by kernel_rfl) rfl #[.slice A0 l0.length c0] rfl (by (try simp only [List.map_toArray, List.map_cons, List.map_nil]) <;> rfl) ?_; (with_reducible refine (laws_big.calls _ _ l0 false _ ?side1 ?side2 A2.out).mono ?_); (case side1 => repeat (first | exact HR0.out | (with_reducible refine Kd.C_alloc ?_ _) | (with_reducible refine Kd.C_drewN ?_ _) | (with_reducible refine Kd.C_drew ?_))); (case side2 => exact HC0.out); rintro e w' ⟨rfl, ⟨nd, rfl⟩⟩; refine ⟨_, rfl, ?_⟩) | ((with_reducible refine gate_callee (f := 13) rfl ?_); refine goesL_ (some 26) rfl rfl Tryz.func13 (by kernel_rfl) rfl #[.slice A0 l0.length c0] rfl (by (try simp only [List.map_toArray, List.map_cons, List.map_nil]) <;> rfl) ?_; (with_reducible refine (spec_DrawNumbers.calls k _ _ l0 t296 t297 t298 _ ?side1 ?side2 A4.out).mono ?_); (case side1 => repeat (first | exact HR0.out | (with_reducible refine Kd.C_alloc ?_ _) | (with_reducible refine Kd.C_drewN ?_ _) | (with_reducible refine Kd.C_drew ?_))); (case side2 => exact HC0.out); rintro e w64 ⟨rfl, hb⟩; refine ⟨_, rfl, ?_⟩; have n0_ := Aside0.mk (below_step (by repeat (first | exact HB.out | apply below_alloc | apply pw_below_drewN | apply below_drew1)) hb); clear HB; have HB := n0_; clear n0_; (try clear hb)) | ((with_reducible refine gate_callee (f := 19) rfl ?_); refine goesL_ (some 32) rfl rfl Tryz.func19 (by kernel_rfl) rfl #[.int .u64 t296] rfl (by (try simp only [List.map_toArray, List.map_cons, List.map_nil]) <;> rfl) ?_; (with_reducible refine (impl_Exact.calls k t296 t299 t300 _ (hm.below (by repeat (first | (with_reducible first | exact HB.out | apply below_alloc | apply pw_below_drewN | apply below_drew1) | refine Below.setCell ?_ (Aside0.out (by assumption)) _ | exact HB.out))) A5.out).mono ?_); rintro e w65 ⟨rfl, hb⟩; refine ⟨_, rfl, ?_⟩; have n0_ := Aside0.mk (below_step (by repeat (first | exact HB.out | apply below_alloc | apply pw_below_drewN | apply below_drew1)) hb); clear HB; have HB := n0_; clear n0_; (try clear hb)) | ((with_reducible refine gate_callee (f := 20) rfl ?_); refine goesL_ (some 36) rfl rfl Tryz.func20 (by kernel_rfl) rfl #[.int .u64 t296] rfl (by (try simp only [List.map_toArray, List.map_cons, List.map_nil]) <;> rfl) ?_; (with_reducible refine (spec_PartsOfNumber.calls k t296 t301 t302 t303 t304 _ A6.out).mono ?_); rintro e w66 ⟨rfl, hb⟩; refine ⟨_, rfl, ?_⟩; have n0_ := Aside0.mk (below_step (by repeat (first | exact HB.out | apply below_alloc | apply pw_below_drewN | apply below_drew1)) hb); clear HB; have HB := n0_; clear n0_; (try clear hb)) | ((with_reducible refine gate_dst (N := 8) rfl ?_); (try (refine gate_guard (by rfl) ?_; dsimp only)); refine box_event ?hg (N := 8) ?hd (cs := #[.int .i64 0, .bool false, .int .u64 0, .int .i64 0]) (t := 35) ?hr ?_; (case hd => rfl); (case hg => rfl); (case hr => first | (go_simp; done) | (go_simp; rfl)); intro gb305 hg w67 hbox hb; have n0_ := Aside0.mk (below_step (by repeat (first | exact HB.out | apply below_alloc | apply pw_below_drewN | apply below_drew1)) hb); have n1_ := Aside0.mk (hbox); have n2_ := Aside0.mk ((by rw [hg]; exact (below_size (by repeat (first | exact HB.out | apply below_alloc | apply pw_below_drewN | apply below_drew1))) : w.heap.size ≤ gb305)); have n3_ := Aside0.mk ((by rw [hg]; exact (below_size (by repeat (first | exact HB.out | apply below_alloc | apply pw_below_drewN | apply below_drew1))) : w.heap.size ≤ gb305)); clear HB; have HB := n0_; have BK305 := n1_; have GW305 := n2_; have GE305 := n3_; clear n0_ n1_ n2_ n3_; clear hb hbox hg; have hcz68_0 : w67.cell? ⟨gb305, 0, none⟩ = some (.int .i64 0) := (blk_cell BK305.out 0).trans rfl; have hcz68_1 : w67.cell? ⟨gb305, 1, none⟩ = some (.bool false) := (blk_cell BK305.out 1).trans rfl; have hcz68_2 : w67.cell? ⟨gb305, 2, none⟩ = some (.int .u64 0) := (blk_cell BK305.out 2).trans rfl; have hcz68_3 : w67.cell? ⟨gb305, 3, none⟩ = some (.int .i64 0) := (blk_cell BK305.out 3).trans rfl; have hfz68_0 := blk_frozen BK305.out 0; have hfz68_1 := blk_frozen BK305.out 1; have hfz68_2 := blk_frozen BK305.out 2; have hfz68_3 := blk_frozen BK305.out 3))
    go_ret
    exact ⟨by first | rfl | (simp [errW_none, errW_some] <;> rfl) | (simp [*, errW_none, errW_some] <;> rfl), by repeat (first | (with_reducible first | exact HB.out | apply below_alloc | apply pw_below_drewN | apply below_drew1 | refine below_set ?_ GE305.out) | exact HB.out)⟩

def laws_FnExact.Pure : Prop := ∀ (l0 : List Int), l0.length ≤ maxLen → l0.length * 1 ≤ 140737488351232 → (∀ x ∈ l0, (Lit.int .u8 x).wf = true) → ∃ k, laws_FnExact.f k l0 = some true
theorem laws_FnExact.walk (P : laws_FnExact.Pure) (a0 : Option Addr) (len0 cap0 : Nat) (z0 : List Int) (w : World) (hm : Go.Proofs.YtkjpelgdppmbjaaGreatDoor.G.Homey w) (w0 : (a0 = none ∧ len0 = 0 ∧ cap0 = 0 ∧ z0 = []) ∨ ∃ x, a0 = some x ∧ len0 ≤ cap0 ∧ cap0 ≤ maxLen ∧ z0.length = cap0 ∧ (∀ i, i < z0.length → w.cell? (x.add i) = some (.int .u8 (z0.getD i 0))) ∧ ∀ n ∈ z0, (Lit.int .u8 n).wf = true) (y0 : len0 * 1 ≤ 140737488351232) :
  Calls Tryz.prog 5 #[.slice a0 len0 cap0] w fun e w' => e = .returned (.bool true) ∧ Below w.heap.size w w' := by
 obtain ⟨l0, rfl, hr0, hm0, hw0, hc0⟩ := ReadsInt.ofRowC w0
 obtain ⟨k, h⟩ := P l0 hm0 y0 hw0
 refine (laws_FnExact.calls k _ _ l0 true w hm (Kd.C_of_reads (d := (0 : Int)) (h1 := fun _ => rfl) hr0) hc0 h).mono ?_
 rintro e w' ⟨rfl, hd⟩
 exact ⟨rfl, hd⟩

end
end Go.Proofs.YtkjpelgdppmbjaaGreatDoor.MFnExact
