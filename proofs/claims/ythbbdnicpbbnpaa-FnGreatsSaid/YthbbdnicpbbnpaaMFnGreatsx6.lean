-- by this session's own program mp.py over the kit's printer
import Derived.Test.YthbbdnicpbbnpaaMFnGreatsx0
import Derived.Test.YthbbdnicpbbnpaaMFnGreatsx1
import Derived.Test.YthbbdnicpbbnpaaMFnGreatsx2
import Derived.Test.YthbbdnicpbbnpaaMFnGreatsx3
import Derived.Test.YthbbdnicpbbnpaaMFnGreatsx4
import Derived.Test.YthbbdnicpbbnpaaMFnGreatsx5
namespace Go.Proofs.Ythbbdnicpbbnpaa.MFnGreats
open Go.RowKit Go.Proofs.YthbbdnicpbbnpaaW.PrintWords Go.Proofs.YthbbdnicpbbnpaaW.PrintLast Go.Proofs.YthbbdnicpbbnpaaW.PrintMore
attribute [local go_sem] max2_int min2_int max_two min_two max_three min_three max_four min_four   -- for this text's walks alone
set_option linter.unusedVariables false
set_option linter.unusedSimpArgs false

/-! ### laws_FnGreats: function 9 -/
def laws_FnGreats.j0 : Nat → ByteArray → ByteArray → Bool → ByteArray → Bool → Bool → ByteArray → Bool → ByteArray → Bool → Bool → ByteArray → Bool → ByteArray → Bool → Bool → Bool → Option (Bool)
  | 0, _, _, _, _, _, _, _, _, _, _, _, _, _, _, _, _, _ => none
  | k + 1, x3, x4, x6, x7, x8, x10, x13, x14, x15, x16, x19, x20, x21, x22, x23, x24, x103 => if x103 = true then (some false) else (if x6 = true then (if x8 = true then (if x10 = true then (if x14 = true then (if x16 = true then (if x19 = true then (if x21 = true then (if x23 = true then (if x7.toList = x3.toList then (if x13.toList = x15.toList then (if x20.toList = x22.toList then (if x24 = true then ((impl_GreatLess.f k x4 x3).bind fun t312 => (if t312 = true then (some false) else (some true))) else ((impl_GreatLess.f k x4 x3).bind fun t313 => (if t313 = true then (some true) else (some (x3.toList == x4.toList))))) else (some false)) else (some false)) else (some false)) else (some false)) else (some false)) else (some false)) else (some false)) else (some false)) else (some false)) else (some false)) else (some false))
def laws_FnGreats.f (k : Nat) (l0 : List Int) : Option (Bool) := (laws_big.f l0).bind fun t283 => (if t283 = true then (some true) else ((spec_DrawGreats.f k l0).bind fun bt284 => ((impl_GreatAdd.f k bt284.1 bt284.2).bind fun bt286 => ((impl_GreatSub.f k bt286.1 bt284.2).bind fun bt288 => ((impl_GreatMul.f k bt284.1 bt284.2).bind fun bt290 => ((impl_GreatAdd.f k bt284.2 (⟨#[49]⟩ : ByteArray)).bind fun bt292 => ((impl_GreatMul.f k bt284.1 bt292.1).bind fun bt294 => ((impl_GreatAdd.f k bt290.1 bt284.1).bind fun bt296 => ((spec_DrawPlaces.f k l0).bind fun t298 => (if 0 < (t298.length : Int) then ((impl_GreatPower.f k 7 (Int.tmod (rd t298 0) 200)).bind fun bt302 => ((impl_GreatPower.f k 7 (wrap64 ((Int.tmod (rd t298 0) 200) + 1))).bind fun bt304 => ((impl_GreatMul.f k bt302.1 (⟨#[55]⟩ : ByteArray)).bind fun bt306 => ((impl_GreatLess.f k bt284.1 bt284.2).bind fun t308 => ((impl_FiguresOk.f k bt284.1).bind fun t309 => (if t309 = true then ((impl_FiguresOk.f k bt286.1).bind fun t310 => (if t310 = true then ((impl_FiguresOk.f k bt290.1).bind fun t311 => (laws_FnGreats.j0 k bt284.1 bt284.2 bt286.2 bt288.1 bt288.2 bt290.2 bt294.1 bt294.2 bt296.1 bt296.2 bt302.2 bt304.1 bt304.2 bt306.1 bt306.2 t308 (!t311))) else (laws_FnGreats.j0 k bt284.1 bt284.2 bt286.2 bt288.1 bt288.2 bt290.2 bt294.1 bt294.2 bt296.1 bt296.2 bt302.2 bt304.1 bt304.2 bt306.1 bt306.2 t308 true))) else (laws_FnGreats.j0 k bt284.1 bt284.2 bt286.2 bt288.1 bt288.2 bt290.2 bt294.1 bt294.2 bt296.1 bt296.2 bt302.2 bt304.1 bt304.2 bt306.1 bt306.2 t308 true))))))) else (none)))))))))))
theorem laws_FnGreats.mono_l : ∀ k, (∀ y0 y1 y2 y3 y4 y5 y6 y7 y8 y9 y10 y11 y12 y13 y14 y15 y16, LeO (laws_FnGreats.j0 k y0 y1 y2 y3 y4 y5 y6 y7 y8 y9 y10 y11 y12 y13 y14 y15 y16) (laws_FnGreats.j0 (k + 1) y0 y1 y2 y3 y4 y5 y6 y7 y8 y9 y10 y11 y12 y13 y14 y15 y16))
  | 0 => fun _ _ _ _ _ _ _ _ _ _ _ _ _ _ _ _ _ r h => by simp [laws_FnGreats.j0] at h
  | k + 1 => by
    have ih0 := laws_FnGreats.mono_l k
    · intro y0 y1 y2 y3 y4 y5 y6 y7 y8 y9 y10 y11 y12 y13 y14 y15 y16
      unfold laws_FnGreats.j0
      repeat' first
      | (with_reducible exact ih0 _ _ _ _ _ _ _ _ _ _ _ _ _ _ _ _ _)
      | (with_reducible exact impl_FiguresOk.mono _ _)
      | (with_reducible exact impl_GreatAdd.mono _ _ _)
      | (with_reducible exact impl_GreatLess.mono _ _ _)
      | (with_reducible exact impl_GreatMul.mono _ _ _)
      | (with_reducible exact impl_GreatPower.mono _ _ _)
      | (with_reducible exact impl_GreatSub.mono _ _ _)
      | (with_reducible exact spec_DrawGreats.mono _ _)
      | (with_reducible exact spec_DrawPlaces.mono _ _)
      | (with_reducible exact LeO.refl _)
      | (with_reducible exact LeO.none _)
      | (with_reducible refine LeO.ite ?_ ?_)
      | (with_reducible refine LeO.bind ?_ (fun _ => ?_))
      | exact ih0 _ _ _ _ _ _ _ _ _ _ _ _ _ _ _ _ _
      | exact impl_FiguresOk.mono _ _
      | exact impl_GreatAdd.mono _ _ _
      | exact impl_GreatLess.mono _ _ _
      | exact impl_GreatMul.mono _ _ _
      | exact impl_GreatPower.mono _ _ _
      | exact impl_GreatSub.mono _ _ _
      | exact spec_DrawGreats.mono _ _
      | exact spec_DrawPlaces.mono _ _
      | exact LeO.none _
      | refine LeO.ite ?_ ?_
      | refine LeO.bind ?_ (fun _ => ?_)
theorem laws_FnGreats.mono : ∀ a0 k, LeO (laws_FnGreats.f k a0) (laws_FnGreats.f (k + 1) a0) := by
  intro a0 k
  have ih0 := laws_FnGreats.mono_l k
  unfold laws_FnGreats.f
  repeat' first
      | (with_reducible exact ih0 _ _ _ _ _ _ _ _ _ _ _ _ _ _ _ _ _)
      | (with_reducible exact impl_FiguresOk.mono _ _)
      | (with_reducible exact impl_GreatAdd.mono _ _ _)
      | (with_reducible exact impl_GreatLess.mono _ _ _)
      | (with_reducible exact impl_GreatMul.mono _ _ _)
      | (with_reducible exact impl_GreatPower.mono _ _ _)
      | (with_reducible exact impl_GreatSub.mono _ _ _)
      | (with_reducible exact spec_DrawGreats.mono _ _)
      | (with_reducible exact spec_DrawPlaces.mono _ _)
      | (with_reducible exact LeO.refl _)
      | (with_reducible exact LeO.none _)
      | (with_reducible refine LeO.ite ?_ ?_)
      | (with_reducible refine LeO.bind ?_ (fun _ => ?_))
      | exact ih0 _ _ _ _ _ _ _ _ _ _ _ _ _ _ _ _ _
      | exact impl_FiguresOk.mono _ _
      | exact impl_GreatAdd.mono _ _ _
      | exact impl_GreatLess.mono _ _ _
      | exact impl_GreatMul.mono _ _ _
      | exact impl_GreatPower.mono _ _ _
      | exact impl_GreatSub.mono _ _ _
      | exact spec_DrawGreats.mono _ _
      | exact spec_DrawPlaces.mono _ _
      | exact LeO.none _
      | refine LeO.ite ?_ ?_
      | refine LeO.bind ?_ (fun _ => ?_)
set_option maxHeartbeats 8000000 in
set_option maxRecDepth 100000 in
theorem laws_FnGreats.calls (k : Nat) (A0 : Option Addr) (c0 : Nat) (l0 : List Int) (r : Bool) (w : World) (hr0 : Kd.C (Kd.int .u8) w A0 l0.length l0) (hc0 : l0.length ≤ c0) (h : laws_FnGreats.f k l0 = some r) :
    Calls Try.prog 9 #[.slice A0 l0.length c0] w fun e w' => e = .returned (.bool r) ∧ Below w.heap.size w w' := by
  have HR0 := Aside0.mk hr0
  have HC0 := Aside0.mk hc0
  clear hr0 hc0
  have HB := Aside0.mk (Below.refl w.heap.size w)
  have H : ((laws_big.f l0).bind fun t283 => (if t283 = true then (some true) else ((spec_DrawGreats.f k l0).bind fun bt284 => ((impl_GreatAdd.f k bt284.1 bt284.2).bind fun bt286 => ((impl_GreatSub.f k bt286.1 bt284.2).bind fun bt288 => ((impl_GreatMul.f k bt284.1 bt284.2).bind fun bt290 => ((impl_GreatAdd.f k bt284.2 (⟨#[49]⟩ : ByteArray)).bind fun bt292 => ((impl_GreatMul.f k bt284.1 bt292.1).bind fun bt294 => ((impl_GreatAdd.f k bt290.1 bt284.1).bind fun bt296 => ((spec_DrawPlaces.f k l0).bind fun t298 => (if 0 < (t298.length : Int) then ((impl_GreatPower.f k 7 (Int.tmod (rd t298 0) 200)).bind fun bt302 => ((impl_GreatPower.f k 7 (wrap64 ((Int.tmod (rd t298 0) 200) + 1))).bind fun bt304 => ((impl_GreatMul.f k bt302.1 (⟨#[55]⟩ : ByteArray)).bind fun bt306 => ((impl_GreatLess.f k bt284.1 bt284.2).bind fun t308 => ((impl_FiguresOk.f k bt284.1).bind fun t309 => (if t309 = true then ((impl_FiguresOk.f k bt286.1).bind fun t310 => (if t310 = true then ((impl_FiguresOk.f k bt290.1).bind fun t311 => (laws_FnGreats.j0 k bt284.1 bt284.2 bt286.2 bt288.1 bt288.2 bt290.2 bt294.1 bt294.2 bt296.1 bt296.2 bt302.2 bt304.1 bt304.2 bt306.1 bt306.2 t308 (!t311))) else (laws_FnGreats.j0 k bt284.1 bt284.2 bt286.2 bt288.1 bt288.2 bt290.2 bt294.1 bt294.2 bt296.1 bt296.2 bt302.2 bt304.1 bt304.2 bt306.1 bt306.2 t308 true))) else (laws_FnGreats.j0 k bt284.1 bt284.2 bt286.2 bt288.1 bt288.2 bt290.2 bt294.1 bt294.2 bt296.1 bt296.2 bt302.2 bt304.1 bt304.2 bt306.1 bt306.2 t308 true))))))) else (none)))))))))))) = some r := h
  clear h
  replace H := Option.bind_eq_some_iff.mp H
  obtain ⟨t283, A20, H⟩ := H
  replace H : (if t283 = true then (some true) else ((spec_DrawGreats.f k l0).bind fun bt284 => ((impl_GreatAdd.f k bt284.1 bt284.2).bind fun bt286 => ((impl_GreatSub.f k bt286.1 bt284.2).bind fun bt288 => ((impl_GreatMul.f k bt284.1 bt284.2).bind fun bt290 => ((impl_GreatAdd.f k bt284.2 (⟨#[49]⟩ : ByteArray)).bind fun bt292 => ((impl_GreatMul.f k bt284.1 bt292.1).bind fun bt294 => ((impl_GreatAdd.f k bt290.1 bt284.1).bind fun bt296 => ((spec_DrawPlaces.f k l0).bind fun t298 => (if 0 < (t298.length : Int) then ((impl_GreatPower.f k 7 (Int.tmod (rd t298 0) 200)).bind fun bt302 => ((impl_GreatPower.f k 7 (wrap64 ((Int.tmod (rd t298 0) 200) + 1))).bind fun bt304 => ((impl_GreatMul.f k bt302.1 (⟨#[55]⟩ : ByteArray)).bind fun bt306 => ((impl_GreatLess.f k bt284.1 bt284.2).bind fun t308 => ((impl_FiguresOk.f k bt284.1).bind fun t309 => (if t309 = true then ((impl_FiguresOk.f k bt286.1).bind fun t310 => (if t310 = true then ((impl_FiguresOk.f k bt290.1).bind fun t311 => (laws_FnGreats.j0 k bt284.1 bt284.2 bt286.2 bt288.1 bt288.2 bt290.2 bt294.1 bt294.2 bt296.1 bt296.2 bt302.2 bt304.1 bt304.2 bt306.1 bt306.2 t308 (!t311))) else (laws_FnGreats.j0 k bt284.1 bt284.2 bt286.2 bt288.1 bt288.2 bt290.2 bt294.1 bt294.2 bt296.1 bt296.2 bt302.2 bt304.1 bt304.2 bt306.1 bt306.2 t308 true))) else (laws_FnGreats.j0 k bt284.1 bt284.2 bt286.2 bt288.1 bt288.2 bt290.2 bt294.1 bt294.2 bt296.1 bt296.2 bt302.2 bt304.1 bt304.2 bt306.1 bt306.2 t308 true))))))) else (none))))))))))) = some r := H
  have A2 := Aside0.mk A20
  clear A20
  by_cases c3 : t283 = true
  · subst c3
    have H1 : (some true) = some r := by rw [if_pos rfl] at H; exact H
    clear H
    have H := H1
    clear H1
    obtain rfl := Option.some.inj H
    go_enter Try.func9, Try.ntmps9
    go_wp2_with (first | ((with_reducible refine gate_callee (f := 21) rfl ?_); refine goesL_ (some 26) rfl rfl Try.func21 (by kernel_rfl) rfl #[.slice A0 l0.length c0] rfl (by (try simp only [List.map_toArray, List.map_cons, List.map_nil]); first | done | rfl | (simp only [List.length_drop, List.length_take]; rfl)) ?_; (with_reducible refine (laws_big.calls _ _ l0 true _ ?side1 ?side2 A2.out).mono ?_); (case side1 => repeat (first | exact HR0.out | (with_reducible refine Kd.C_alloc ?_ _) | (with_reducible refine Kd.C_drewN ?_ _) | (with_reducible refine Kd.C_drew ?_))); (case side2 => exact HC0.out); rintro e w' ⟨rfl, ⟨nd, rfl⟩⟩; refine ⟨_, rfl, ?_⟩))
    go_ret
    exact ⟨by first | rfl | (refine congrArg Ending.returned (congrArg (Value.int .i64) (?_ : (0 : Int) = _)); decide +kernel) | (simp [errW_none, errW_some] <;> rfl) | (simp [*, errW_none, errW_some] <;> rfl), by repeat (first | (with_reducible first | exact HB.out | apply below_alloc | apply pw_below_drewN | apply below_drew1) | exact HB.out)⟩
  · replace c3 := Bool.eq_false_iff.mpr c3
    subst c3
    have H1 : ((spec_DrawGreats.f k l0).bind fun bt284 => ((impl_GreatAdd.f k bt284.1 bt284.2).bind fun bt286 => ((impl_GreatSub.f k bt286.1 bt284.2).bind fun bt288 => ((impl_GreatMul.f k bt284.1 bt284.2).bind fun bt290 => ((impl_GreatAdd.f k bt284.2 (⟨#[49]⟩ : ByteArray)).bind fun bt292 => ((impl_GreatMul.f k bt284.1 bt292.1).bind fun bt294 => ((impl_GreatAdd.f k bt290.1 bt284.1).bind fun bt296 => ((spec_DrawPlaces.f k l0).bind fun t298 => (if 0 < (t298.length : Int) then ((impl_GreatPower.f k 7 (Int.tmod (rd t298 0) 200)).bind fun bt302 => ((impl_GreatPower.f k 7 (wrap64 ((Int.tmod (rd t298 0) 200) + 1))).bind fun bt304 => ((impl_GreatMul.f k bt302.1 (⟨#[55]⟩ : ByteArray)).bind fun bt306 => ((impl_GreatLess.f k bt284.1 bt284.2).bind fun t308 => ((impl_FiguresOk.f k bt284.1).bind fun t309 => (if t309 = true then ((impl_FiguresOk.f k bt286.1).bind fun t310 => (if t310 = true then ((impl_FiguresOk.f k bt290.1).bind fun t311 => (laws_FnGreats.j0 k bt284.1 bt284.2 bt286.2 bt288.1 bt288.2 bt290.2 bt294.1 bt294.2 bt296.1 bt296.2 bt302.2 bt304.1 bt304.2 bt306.1 bt306.2 t308 (!t311))) else (laws_FnGreats.j0 k bt284.1 bt284.2 bt286.2 bt288.1 bt288.2 bt290.2 bt294.1 bt294.2 bt296.1 bt296.2 bt302.2 bt304.1 bt304.2 bt306.1 bt306.2 t308 true))) else (laws_FnGreats.j0 k bt284.1 bt284.2 bt286.2 bt288.1 bt288.2 bt290.2 bt294.1 bt294.2 bt296.1 bt296.2 bt302.2 bt304.1 bt304.2 bt306.1 bt306.2 t308 true))))))) else (none)))))))))) = some r := by rw [if_neg (show ¬ (false = true) by decide)] at H; exact H
    clear H
    have H := H1
    clear H1
    replace H := Option.bind_eq_some_iff.mp H
    obtain ⟨⟨t284, t285⟩, A40, H⟩ := H
    replace H : ((impl_GreatAdd.f k t284 t285).bind fun bt286 => ((impl_GreatSub.f k bt286.1 t285).bind fun bt288 => ((impl_GreatMul.f k t284 t285).bind fun bt290 => ((impl_GreatAdd.f k t285 (⟨#[49]⟩ : ByteArray)).bind fun bt292 => ((impl_GreatMul.f k t284 bt292.1).bind fun bt294 => ((impl_GreatAdd.f k bt290.1 t284).bind fun bt296 => ((spec_DrawPlaces.f k l0).bind fun t298 => (if 0 < (t298.length : Int) then ((impl_GreatPower.f k 7 (Int.tmod (rd t298 0) 200)).bind fun bt302 => ((impl_GreatPower.f k 7 (wrap64 ((Int.tmod (rd t298 0) 200) + 1))).bind fun bt304 => ((impl_GreatMul.f k bt302.1 (⟨#[55]⟩ : ByteArray)).bind fun bt306 => ((impl_GreatLess.f k t284 t285).bind fun t308 => ((impl_FiguresOk.f k t284).bind fun t309 => (if t309 = true then ((impl_FiguresOk.f k bt286.1).bind fun t310 => (if t310 = true then ((impl_FiguresOk.f k bt290.1).bind fun t311 => (laws_FnGreats.j0 k t284 t285 bt286.2 bt288.1 bt288.2 bt290.2 bt294.1 bt294.2 bt296.1 bt296.2 bt302.2 bt304.1 bt304.2 bt306.1 bt306.2 t308 (!t311))) else (laws_FnGreats.j0 k t284 t285 bt286.2 bt288.1 bt288.2 bt290.2 bt294.1 bt294.2 bt296.1 bt296.2 bt302.2 bt304.1 bt304.2 bt306.1 bt306.2 t308 true))) else (laws_FnGreats.j0 k t284 t285 bt286.2 bt288.1 bt288.2 bt290.2 bt294.1 bt294.2 bt296.1 bt296.2 bt302.2 bt304.1 bt304.2 bt306.1 bt306.2 t308 true))))))) else (none))))))))) = some r := H
    have A4 := Aside0.mk A40
    clear A40
    replace H := Option.bind_eq_some_iff.mp H
    obtain ⟨⟨t286, t287⟩, A50, H⟩ := H
    replace H : ((impl_GreatSub.f k t286 t285).bind fun bt288 => ((impl_GreatMul.f k t284 t285).bind fun bt290 => ((impl_GreatAdd.f k t285 (⟨#[49]⟩ : ByteArray)).bind fun bt292 => ((impl_GreatMul.f k t284 bt292.1).bind fun bt294 => ((impl_GreatAdd.f k bt290.1 t284).bind fun bt296 => ((spec_DrawPlaces.f k l0).bind fun t298 => (if 0 < (t298.length : Int) then ((impl_GreatPower.f k 7 (Int.tmod (rd t298 0) 200)).bind fun bt302 => ((impl_GreatPower.f k 7 (wrap64 ((Int.tmod (rd t298 0) 200) + 1))).bind fun bt304 => ((impl_GreatMul.f k bt302.1 (⟨#[55]⟩ : ByteArray)).bind fun bt306 => ((impl_GreatLess.f k t284 t285).bind fun t308 => ((impl_FiguresOk.f k t284).bind fun t309 => (if t309 = true then ((impl_FiguresOk.f k t286).bind fun t310 => (if t310 = true then ((impl_FiguresOk.f k bt290.1).bind fun t311 => (laws_FnGreats.j0 k t284 t285 t287 bt288.1 bt288.2 bt290.2 bt294.1 bt294.2 bt296.1 bt296.2 bt302.2 bt304.1 bt304.2 bt306.1 bt306.2 t308 (!t311))) else (laws_FnGreats.j0 k t284 t285 t287 bt288.1 bt288.2 bt290.2 bt294.1 bt294.2 bt296.1 bt296.2 bt302.2 bt304.1 bt304.2 bt306.1 bt306.2 t308 true))) else (laws_FnGreats.j0 k t284 t285 t287 bt288.1 bt288.2 bt290.2 bt294.1 bt294.2 bt296.1 bt296.2 bt302.2 bt304.1 bt304.2 bt306.1 bt306.2 t308 true))))))) else (none)))))))) = some r := H
    have A5 := Aside0.mk A50
    clear A50
    replace H := Option.bind_eq_some_iff.mp H
    obtain ⟨⟨t288, t289⟩, A60, H⟩ := H
    replace H : ((impl_GreatMul.f k t284 t285).bind fun bt290 => ((impl_GreatAdd.f k t285 (⟨#[49]⟩ : ByteArray)).bind fun bt292 => ((impl_GreatMul.f k t284 bt292.1).bind fun bt294 => ((impl_GreatAdd.f k bt290.1 t284).bind fun bt296 => ((spec_DrawPlaces.f k l0).bind fun t298 => (if 0 < (t298.length : Int) then ((impl_GreatPower.f k 7 (Int.tmod (rd t298 0) 200)).bind fun bt302 => ((impl_GreatPower.f k 7 (wrap64 ((Int.tmod (rd t298 0) 200) + 1))).bind fun bt304 => ((impl_GreatMul.f k bt302.1 (⟨#[55]⟩ : ByteArray)).bind fun bt306 => ((impl_GreatLess.f k t284 t285).bind fun t308 => ((impl_FiguresOk.f k t284).bind fun t309 => (if t309 = true then ((impl_FiguresOk.f k t286).bind fun t310 => (if t310 = true then ((impl_FiguresOk.f k bt290.1).bind fun t311 => (laws_FnGreats.j0 k t284 t285 t287 t288 t289 bt290.2 bt294.1 bt294.2 bt296.1 bt296.2 bt302.2 bt304.1 bt304.2 bt306.1 bt306.2 t308 (!t311))) else (laws_FnGreats.j0 k t284 t285 t287 t288 t289 bt290.2 bt294.1 bt294.2 bt296.1 bt296.2 bt302.2 bt304.1 bt304.2 bt306.1 bt306.2 t308 true))) else (laws_FnGreats.j0 k t284 t285 t287 t288 t289 bt290.2 bt294.1 bt294.2 bt296.1 bt296.2 bt302.2 bt304.1 bt304.2 bt306.1 bt306.2 t308 true))))))) else (none))))))) = some r := H
    have A6 := Aside0.mk A60
    clear A60
    replace H := Option.bind_eq_some_iff.mp H
    obtain ⟨⟨t290, t291⟩, A70, H⟩ := H
    replace H : ((impl_GreatAdd.f k t285 (⟨#[49]⟩ : ByteArray)).bind fun bt292 => ((impl_GreatMul.f k t284 bt292.1).bind fun bt294 => ((impl_GreatAdd.f k t290 t284).bind fun bt296 => ((spec_DrawPlaces.f k l0).bind fun t298 => (if 0 < (t298.length : Int) then ((impl_GreatPower.f k 7 (Int.tmod (rd t298 0) 200)).bind fun bt302 => ((impl_GreatPower.f k 7 (wrap64 ((Int.tmod (rd t298 0) 200) + 1))).bind fun bt304 => ((impl_GreatMul.f k bt302.1 (⟨#[55]⟩ : ByteArray)).bind fun bt306 => ((impl_GreatLess.f k t284 t285).bind fun t308 => ((impl_FiguresOk.f k t284).bind fun t309 => (if t309 = true then ((impl_FiguresOk.f k t286).bind fun t310 => (if t310 = true then ((impl_FiguresOk.f k t290).bind fun t311 => (laws_FnGreats.j0 k t284 t285 t287 t288 t289 t291 bt294.1 bt294.2 bt296.1 bt296.2 bt302.2 bt304.1 bt304.2 bt306.1 bt306.2 t308 (!t311))) else (laws_FnGreats.j0 k t284 t285 t287 t288 t289 t291 bt294.1 bt294.2 bt296.1 bt296.2 bt302.2 bt304.1 bt304.2 bt306.1 bt306.2 t308 true))) else (laws_FnGreats.j0 k t284 t285 t287 t288 t289 t291 bt294.1 bt294.2 bt296.1 bt296.2 bt302.2 bt304.1 bt304.2 bt306.1 bt306.2 t308 true))))))) else (none)))))) = some r := H
    have A7 := Aside0.mk A70
    clear A70
    replace H := Option.bind_eq_some_iff.mp H
    obtain ⟨⟨t292, t293⟩, A80, H⟩ := H
    replace H : ((impl_GreatMul.f k t284 t292).bind fun bt294 => ((impl_GreatAdd.f k t290 t284).bind fun bt296 => ((spec_DrawPlaces.f k l0).bind fun t298 => (if 0 < (t298.length : Int) then ((impl_GreatPower.f k 7 (Int.tmod (rd t298 0) 200)).bind fun bt302 => ((impl_GreatPower.f k 7 (wrap64 ((Int.tmod (rd t298 0) 200) + 1))).bind fun bt304 => ((impl_GreatMul.f k bt302.1 (⟨#[55]⟩ : ByteArray)).bind fun bt306 => ((impl_GreatLess.f k t284 t285).bind fun t308 => ((impl_FiguresOk.f k t284).bind fun t309 => (if t309 = true then ((impl_FiguresOk.f k t286).bind fun t310 => (if t310 = true then ((impl_FiguresOk.f k t290).bind fun t311 => (laws_FnGreats.j0 k t284 t285 t287 t288 t289 t291 bt294.1 bt294.2 bt296.1 bt296.2 bt302.2 bt304.1 bt304.2 bt306.1 bt306.2 t308 (!t311))) else (laws_FnGreats.j0 k t284 t285 t287 t288 t289 t291 bt294.1 bt294.2 bt296.1 bt296.2 bt302.2 bt304.1 bt304.2 bt306.1 bt306.2 t308 true))) else (laws_FnGreats.j0 k t284 t285 t287 t288 t289 t291 bt294.1 bt294.2 bt296.1 bt296.2 bt302.2 bt304.1 bt304.2 bt306.1 bt306.2 t308 true))))))) else (none))))) = some r := H
    have A8 := Aside0.mk A80
    clear A80
    replace H := Option.bind_eq_some_iff.mp H
    obtain ⟨⟨t294, t295⟩, A90, H⟩ := H
    replace H : ((impl_GreatAdd.f k t290 t284).bind fun bt296 => ((spec_DrawPlaces.f k l0).bind fun t298 => (if 0 < (t298.length : Int) then ((impl_GreatPower.f k 7 (Int.tmod (rd t298 0) 200)).bind fun bt302 => ((impl_GreatPower.f k 7 (wrap64 ((Int.tmod (rd t298 0) 200) + 1))).bind fun bt304 => ((impl_GreatMul.f k bt302.1 (⟨#[55]⟩ : ByteArray)).bind fun bt306 => ((impl_GreatLess.f k t284 t285).bind fun t308 => ((impl_FiguresOk.f k t284).bind fun t309 => (if t309 = true then ((impl_FiguresOk.f k t286).bind fun t310 => (if t310 = true then ((impl_FiguresOk.f k t290).bind fun t311 => (laws_FnGreats.j0 k t284 t285 t287 t288 t289 t291 t294 t295 bt296.1 bt296.2 bt302.2 bt304.1 bt304.2 bt306.1 bt306.2 t308 (!t311))) else (laws_FnGreats.j0 k t284 t285 t287 t288 t289 t291 t294 t295 bt296.1 bt296.2 bt302.2 bt304.1 bt304.2 bt306.1 bt306.2 t308 true))) else (laws_FnGreats.j0 k t284 t285 t287 t288 t289 t291 t294 t295 bt296.1 bt296.2 bt302.2 bt304.1 bt304.2 bt306.1 bt306.2 t308 true))))))) else (none)))) = some r := H
    have A9 := Aside0.mk A90
    clear A90
    replace H := Option.bind_eq_some_iff.mp H
    obtain ⟨⟨t296, t297⟩, A100, H⟩ := H
    replace H : ((spec_DrawPlaces.f k l0).bind fun t298 => (if 0 < (t298.length : Int) then ((impl_GreatPower.f k 7 (Int.tmod (rd t298 0) 200)).bind fun bt302 => ((impl_GreatPower.f k 7 (wrap64 ((Int.tmod (rd t298 0) 200) + 1))).bind fun bt304 => ((impl_GreatMul.f k bt302.1 (⟨#[55]⟩ : ByteArray)).bind fun bt306 => ((impl_GreatLess.f k t284 t285).bind fun t308 => ((impl_FiguresOk.f k t284).bind fun t309 => (if t309 = true then ((impl_FiguresOk.f k t286).bind fun t310 => (if t310 = true then ((impl_FiguresOk.f k t290).bind fun t311 => (laws_FnGreats.j0 k t284 t285 t287 t288 t289 t291 t294 t295 t296 t297 bt302.2 bt304.1 bt304.2 bt306.1 bt306.2 t308 (!t311))) else (laws_FnGreats.j0 k t284 t285 t287 t288 t289 t291 t294 t295 t296 t297 bt302.2 bt304.1 bt304.2 bt306.1 bt306.2 t308 true))) else (laws_FnGreats.j0 k t284 t285 t287 t288 t289 t291 t294 t295 t296 t297 bt302.2 bt304.1 bt304.2 bt306.1 bt306.2 t308 true))))))) else (none))) = some r := H
    have A10 := Aside0.mk A100
    clear A100
    replace H := Option.bind_eq_some_iff.mp H
    obtain ⟨t298, A110, H⟩ := H
    replace H : (if 0 < (t298.length : Int) then ((impl_GreatPower.f k 7 (Int.tmod (rd t298 0) 200)).bind fun bt302 => ((impl_GreatPower.f k 7 (wrap64 ((Int.tmod (rd t298 0) 200) + 1))).bind fun bt304 => ((impl_GreatMul.f k bt302.1 (⟨#[55]⟩ : ByteArray)).bind fun bt306 => ((impl_GreatLess.f k t284 t285).bind fun t308 => ((impl_FiguresOk.f k t284).bind fun t309 => (if t309 = true then ((impl_FiguresOk.f k t286).bind fun t310 => (if t310 = true then ((impl_FiguresOk.f k t290).bind fun t311 => (laws_FnGreats.j0 k t284 t285 t287 t288 t289 t291 t294 t295 t296 t297 bt302.2 bt304.1 bt304.2 bt306.1 bt306.2 t308 (!t311))) else (laws_FnGreats.j0 k t284 t285 t287 t288 t289 t291 t294 t295 t296 t297 bt302.2 bt304.1 bt304.2 bt306.1 bt306.2 t308 true))) else (laws_FnGreats.j0 k t284 t285 t287 t288 t289 t291 t294 t295 t296 t297 bt302.2 bt304.1 bt304.2 bt306.1 bt306.2 t308 true))))))) else (none)) = some r := H
    have A11 := Aside0.mk A110
    clear A110
    by_cases c12 : 0 < (t298.length : Int)
    · rw [if_pos c12] at H
      have c12b0 : decide (0 < (t298.length : Int)) = true := decide_eq_true c12
      have c12b1 : decide (0 < t298.length) = true := decide_eq_true (by omega)
      clear c12
      replace H := Option.bind_eq_some_iff.mp H
      obtain ⟨⟨t302, t303⟩, A130, H⟩ := H
      replace H : ((impl_GreatPower.f k 7 (wrap64 ((Int.tmod (rd t298 0) 200) + 1))).bind fun bt304 => ((impl_GreatMul.f k t302 (⟨#[55]⟩ : ByteArray)).bind fun bt306 => ((impl_GreatLess.f k t284 t285).bind fun t308 => ((impl_FiguresOk.f k t284).bind fun t309 => (if t309 = true then ((impl_FiguresOk.f k t286).bind fun t310 => (if t310 = true then ((impl_FiguresOk.f k t290).bind fun t311 => (laws_FnGreats.j0 k t284 t285 t287 t288 t289 t291 t294 t295 t296 t297 t303 bt304.1 bt304.2 bt306.1 bt306.2 t308 (!t311))) else (laws_FnGreats.j0 k t284 t285 t287 t288 t289 t291 t294 t295 t296 t297 t303 bt304.1 bt304.2 bt306.1 bt306.2 t308 true))) else (laws_FnGreats.j0 k t284 t285 t287 t288 t289 t291 t294 t295 t296 t297 t303 bt304.1 bt304.2 bt306.1 bt306.2 t308 true)))))) = some r := H
      have A13 := Aside0.mk A130
      clear A130
      replace H := Option.bind_eq_some_iff.mp H
      obtain ⟨⟨t304, t305⟩, A140, H⟩ := H
      replace H : ((impl_GreatMul.f k t302 (⟨#[55]⟩ : ByteArray)).bind fun bt306 => ((impl_GreatLess.f k t284 t285).bind fun t308 => ((impl_FiguresOk.f k t284).bind fun t309 => (if t309 = true then ((impl_FiguresOk.f k t286).bind fun t310 => (if t310 = true then ((impl_FiguresOk.f k t290).bind fun t311 => (laws_FnGreats.j0 k t284 t285 t287 t288 t289 t291 t294 t295 t296 t297 t303 t304 t305 bt306.1 bt306.2 t308 (!t311))) else (laws_FnGreats.j0 k t284 t285 t287 t288 t289 t291 t294 t295 t296 t297 t303 t304 t305 bt306.1 bt306.2 t308 true))) else (laws_FnGreats.j0 k t284 t285 t287 t288 t289 t291 t294 t295 t296 t297 t303 t304 t305 bt306.1 bt306.2 t308 true))))) = some r := H
      have A14 := Aside0.mk A140
      clear A140
      replace H := Option.bind_eq_some_iff.mp H
      obtain ⟨⟨t306, t307⟩, A150, H⟩ := H
      replace H : ((impl_GreatLess.f k t284 t285).bind fun t308 => ((impl_FiguresOk.f k t284).bind fun t309 => (if t309 = true then ((impl_FiguresOk.f k t286).bind fun t310 => (if t310 = true then ((impl_FiguresOk.f k t290).bind fun t311 => (laws_FnGreats.j0 k t284 t285 t287 t288 t289 t291 t294 t295 t296 t297 t303 t304 t305 t306 t307 t308 (!t311))) else (laws_FnGreats.j0 k t284 t285 t287 t288 t289 t291 t294 t295 t296 t297 t303 t304 t305 t306 t307 t308 true))) else (laws_FnGreats.j0 k t284 t285 t287 t288 t289 t291 t294 t295 t296 t297 t303 t304 t305 t306 t307 t308 true)))) = some r := H
      have A15 := Aside0.mk A150
      clear A150
      replace H := Option.bind_eq_some_iff.mp H
      obtain ⟨t308, A160, H⟩ := H
      replace H : ((impl_FiguresOk.f k t284).bind fun t309 => (if t309 = true then ((impl_FiguresOk.f k t286).bind fun t310 => (if t310 = true then ((impl_FiguresOk.f k t290).bind fun t311 => (laws_FnGreats.j0 k t284 t285 t287 t288 t289 t291 t294 t295 t296 t297 t303 t304 t305 t306 t307 t308 (!t311))) else (laws_FnGreats.j0 k t284 t285 t287 t288 t289 t291 t294 t295 t296 t297 t303 t304 t305 t306 t307 t308 true))) else (laws_FnGreats.j0 k t284 t285 t287 t288 t289 t291 t294 t295 t296 t297 t303 t304 t305 t306 t307 t308 true))) = some r := H
      have A16 := Aside0.mk A160
      clear A160
      have HC17 := Aside0.mk H
      clear H
      go_enter Try.func9, Try.ntmps9
      go_upto_region 15 with (first | ((with_reducible refine gate_callee (f := 21) rfl ?_); refine goesL_ (some 26) rfl rfl Try.func21 (by kernel_rfl) rfl #[.slice A0 l0.length c0] rfl (by (try simp only [List.map_toArray, List.map_cons, List.map_nil]); first | done | rfl | (simp only [List.length_drop, List.length_take]; rfl)) ?_; (with_reducible refine (laws_big.calls _ _ l0 false _ ?side1 ?side2 A2.out).mono ?_); (case side1 => repeat (first | exact HR0.out | (with_reducible refine Kd.C_alloc ?_ _) | (with_reducible refine Kd.C_drewN ?_ _) | (with_reducible refine Kd.C_drew ?_))); (case side2 => exact HC0.out); rintro e w' ⟨rfl, ⟨nd, rfl⟩⟩; refine ⟨_, rfl, ?_⟩) | ((with_reducible refine gate_callee (f := 37) rfl ?_); refine goesL_ (some 29) rfl rfl Try.func37 (by kernel_rfl) rfl #[.slice A0 l0.length c0] rfl (by (try simp only [List.map_toArray, List.map_cons, List.map_nil]); first | done | rfl | (simp only [List.length_drop, List.length_take]; rfl)) ?_; (with_reducible refine (spec_DrawGreats.calls k _ _ l0 t284 t285 _ ?side1 ?side2 A4.out).mono ?_); (case side1 => repeat (first | exact HR0.out | (with_reducible refine Kd.C_alloc ?_ _) | (with_reducible refine Kd.C_drewN ?_ _) | (with_reducible refine Kd.C_drew ?_))); (case side2 => exact HC0.out); rintro e w18 ⟨rfl, hb⟩; refine ⟨_, rfl, ?_⟩; have n0_ := Aside0.mk (below_step (by repeat (first | (with_reducible first | exact HB.out | apply below_alloc | apply pw_below_drewN | apply below_drew1) | exact HB.out)) hb); clear HB; have HB := n0_; clear n0_; (try clear hb); (try clear hb2); (try clear hk); (try clear hi)) | ((with_reducible refine gate_callee (f := 16) rfl ?_); refine goesL_ (some 35) rfl rfl Try.func16 (by kernel_rfl) rfl #[.string t284, .string t285] rfl (by (try simp only [List.map_toArray, List.map_cons, List.map_nil]); first | done | rfl | (simp only [List.length_drop, List.length_take]; rfl)) ?_; (with_reducible refine (impl_GreatAdd.calls k t284 t285 t286 t287 _ A5.out).mono ?_); rintro e w19 ⟨rfl, hb⟩; refine ⟨_, rfl, ?_⟩; have n0_ := Aside0.mk (below_step (by repeat (first | (with_reducible first | exact HB.out | apply below_alloc | apply pw_below_drewN | apply below_drew1) | exact HB.out)) hb); clear HB; have HB := n0_; clear n0_; (try clear hb); (try clear hb2); (try clear hk); (try clear hi)) | ((with_reducible refine gate_callee (f := 18) rfl ?_); refine goesL_ (some 41) rfl rfl Try.func18 (by kernel_rfl) rfl #[.string t286, .string t285] rfl (by (try simp only [List.map_toArray, List.map_cons, List.map_nil]); first | done | rfl | (simp only [List.length_drop, List.length_take]; rfl)) ?_; (with_reducible refine (impl_GreatSub.calls k t286 t285 t288 t289 _ A6.out).mono ?_); rintro e w20 ⟨rfl, hb⟩; refine ⟨_, rfl, ?_⟩; have n0_ := Aside0.mk (below_step (by repeat (first | (with_reducible first | exact HB.out | apply below_alloc | apply pw_below_drewN | apply below_drew1) | exact HB.out)) hb); clear HB; have HB := n0_; clear n0_; (try clear hb); (try clear hb2); (try clear hk); (try clear hi)) | ((with_reducible refine gate_callee (f := 14) rfl ?_); refine goesL_ (some 47) rfl rfl Try.func14 (by kernel_rfl) rfl #[.string t284, .string t285] rfl (by (try simp only [List.map_toArray, List.map_cons, List.map_nil]); first | done | rfl | (simp only [List.length_drop, List.length_take]; rfl)) ?_; (with_reducible refine (impl_GreatMul.calls k t284 t285 t290 t291 _ A7.out).mono ?_); rintro e w21 ⟨rfl, hb⟩; refine ⟨_, rfl, ?_⟩; have n0_ := Aside0.mk (below_step (by repeat (first | (with_reducible first | exact HB.out | apply below_alloc | apply pw_below_drewN | apply below_drew1) | exact HB.out)) hb); clear HB; have HB := n0_; clear n0_; (try clear hb); (try clear hb2); (try clear hk); (try clear hi)) | ((with_reducible refine gate_callee (f := 16) rfl ?_); refine goesL_ (some 52) rfl rfl Try.func16 (by kernel_rfl) rfl #[.string t285, .string (⟨#[49]⟩ : ByteArray)] rfl (by (try simp only [List.map_toArray, List.map_cons, List.map_nil]); first | done | rfl | (simp only [List.length_drop, List.length_take]; rfl)) ?_; (with_reducible refine (impl_GreatAdd.calls k t285 (⟨#[49]⟩ : ByteArray) t292 t293 _ A8.out).mono ?_); rintro e w22 ⟨rfl, hb⟩; refine ⟨_, rfl, ?_⟩; have n0_ := Aside0.mk (below_step (by repeat (first | (with_reducible first | exact HB.out | apply below_alloc | apply pw_below_drewN | apply below_drew1) | exact HB.out)) hb); clear HB; have HB := n0_; clear n0_; (try clear hb); (try clear hb2); (try clear hk); (try clear hi)) | ((with_reducible refine gate_callee (f := 14) rfl ?_); refine goesL_ (some 58) rfl rfl Try.func14 (by kernel_rfl) rfl #[.string t284, .string t292] rfl (by (try simp only [List.map_toArray, List.map_cons, List.map_nil]); first | done | rfl | (simp only [List.length_drop, List.length_take]; rfl)) ?_; (with_reducible refine (impl_GreatMul.calls k t284 t292 t294 t295 _ A9.out).mono ?_); rintro e w23 ⟨rfl, hb⟩; refine ⟨_, rfl, ?_⟩; have n0_ := Aside0.mk (below_step (by repeat (first | (with_reducible first | exact HB.out | apply below_alloc | apply pw_below_drewN | apply below_drew1) | exact HB.out)) hb); clear HB; have HB := n0_; clear n0_; (try clear hb); (try clear hb2); (try clear hk); (try clear hi)) | ((with_reducible refine gate_callee (f := 16) rfl ?_); refine goesL_ (some 64) rfl rfl Try.func16 (by kernel_rfl) rfl #[.string t290, .string t284] rfl (by (try simp only [List.map_toArray, List.map_cons, List.map_nil]); first | done | rfl | (simp only [List.length_drop, List.length_take]; rfl)) ?_; (with_reducible refine (impl_GreatAdd.calls k t290 t284 t296 t297 _ A10.out).mono ?_); rintro e w24 ⟨rfl, hb⟩; refine ⟨_, rfl, ?_⟩; have n0_ := Aside0.mk (below_step (by repeat (first | (with_reducible first | exact HB.out | apply below_alloc | apply pw_below_drewN | apply below_drew1) | exact HB.out)) hb); clear HB; have HB := n0_; clear n0_; (try clear hb); (try clear hb2); (try clear hk); (try clear hi)) | ((with_reducible refine gate_callee (f := 38) rfl ?_); refine goesL_ (some 68) rfl rfl Try.func38 (by kernel_rfl) rfl #[.slice A0 l0.length c0] rfl (by (try simp only [List.map_toArray, List.map_cons, List.map_nil]); first | done | rfl | (simp only [List.length_drop, List.length_take]; rfl)) ?_; (with_reducible refine (spec_DrawPlaces.calls k _ _ l0 t298 _ ?side1 ?side2 A11.out).mono ?_); (case side1 => repeat (first | exact (Kd.C_below HR0.out HB.out) | (with_reducible refine Kd.C_alloc ?_ _) | (with_reducible refine Kd.C_drewN ?_ _) | (with_reducible refine Kd.C_drew ?_))); (case side2 => exact HC0.out); rintro e w25 ⟨v299, rfl, ho0, hb⟩; refine ⟨_, rfl, ?_⟩; have n0_ := Aside0.mk (Kd.R_lower ho0 (below_size (by repeat (first | (with_reducible first | exact HB.out | apply below_alloc | apply pw_below_drewN | apply below_drew1) | exact HB.out)))); have n1_ := Aside0.mk (below_step (by repeat (first | (with_reducible first | exact HB.out | apply below_alloc | apply pw_below_drewN | apply below_drew1) | exact HB.out)) hb); clear HB; have HO300 := n0_; have HB := n1_; clear n0_ n1_; (try clear hb); (try clear hb2); (try clear hk); (try clear hi); (try clear ho0); obtain ⟨Ao26, co26, eo26⟩ := Kd.R_slice HO300.out; subst eo26; have p301 : 0 ≤ (0 : Int) := (by omega); have q301 : 0 < (t298.length : Int) := of_decide_eq_true (by first | (with_reducible assumption) | assumption); obtain ⟨ad301, e301, hx301_0⟩ := Kd.at_int (Kd.R_reads' HO300.out).2.2 0 p301 q301; cases e301; have qi301 : (0 < t298.length) = True := eq_true (by omega); (try rw [show ((0 : Int)).toNat = 0 from rfl] at hx301_0); (try rw [Addr.add_zero'] at hx301_0); replace p301 := eq_true p301; replace q301 := eq_true q301) | ((with_reducible refine gate_callee (f := 20) rfl ?_); refine goesL_ (some 74) rfl rfl Try.func20 (by kernel_rfl) rfl #[.int .i64 7, .int .i64 (Int.tmod (rd t298 0) 200)] rfl (by (try simp only [List.map_toArray, List.map_cons, List.map_nil]); first | done | rfl | (simp only [List.length_drop, List.length_take]; rfl)) ?_; (with_reducible refine (impl_GreatPower.calls k 7 (Int.tmod (rd t298 0) 200) t302 t303 _ A13.out).mono ?_); rintro e w27 ⟨rfl, hb⟩; refine ⟨_, rfl, ?_⟩; have n0_ := Aside0.mk (Kd.R_below (by (with_reducible repeat (first | apply Kd.R_alloc | apply Kd.R_drewN | apply Kd.R_drew)); exact HO300.out) hb); have n1_ := Aside0.mk (below_step (by repeat (first | (with_reducible first | exact HB.out | apply below_alloc | apply pw_below_drewN | apply below_drew1) | exact HB.out)) hb); clear HO300; clear HB; have HO300 := n0_; have HB := n1_; clear n0_ n1_; (try clear hb); (try clear hb2); (try clear hk); (try clear hi)) | ((with_reducible refine gate_callee (f := 20) rfl ?_); refine goesL_ (some 80) rfl rfl Try.func20 (by kernel_rfl) rfl #[.int .i64 7, .int .i64 (wrap64 ((Int.tmod (rd t298 0) 200) + 1))] rfl (by (try simp only [List.map_toArray, List.map_cons, List.map_nil]); first | done | rfl | (simp only [List.length_drop, List.length_take]; rfl)) ?_; (with_reducible refine (impl_GreatPower.calls k 7 (wrap64 ((Int.tmod (rd t298 0) 200) + 1)) t304 t305 _ A14.out).mono ?_); rintro e w28 ⟨rfl, hb⟩; refine ⟨_, rfl, ?_⟩; have n0_ := Aside0.mk (Kd.R_below (by (with_reducible repeat (first | apply Kd.R_alloc | apply Kd.R_drewN | apply Kd.R_drew)); exact HO300.out) hb); have n1_ := Aside0.mk (below_step (by repeat (first | (with_reducible first | exact HB.out | apply below_alloc | apply pw_below_drewN | apply below_drew1) | exact HB.out)) hb); clear HO300; clear HB; have HO300 := n0_; have HB := n1_; clear n0_ n1_; (try clear hb); (try clear hb2); (try clear hk); (try clear hi)) | ((with_reducible refine gate_callee (f := 14) rfl ?_); refine goesL_ (some 85) rfl rfl Try.func14 (by kernel_rfl) rfl #[.string t302, .string (⟨#[55]⟩ : ByteArray)] rfl (by (try simp only [List.map_toArray, List.map_cons, List.map_nil]); first | done | rfl | (simp only [List.length_drop, List.length_take]; rfl)) ?_; (with_reducible refine (impl_GreatMul.calls k t302 (⟨#[55]⟩ : ByteArray) t306 t307 _ A15.out).mono ?_); rintro e w29 ⟨rfl, hb⟩; refine ⟨_, rfl, ?_⟩; have n0_ := Aside0.mk (Kd.R_below (by (with_reducible repeat (first | apply Kd.R_alloc | apply Kd.R_drewN | apply Kd.R_drew)); exact HO300.out) hb); have n1_ := Aside0.mk (below_step (by repeat (first | (with_reducible first | exact HB.out | apply below_alloc | apply pw_below_drewN | apply below_drew1) | exact HB.out)) hb); clear HO300; clear HB; have HO300 := n0_; have HB := n1_; clear n0_ n1_; (try clear hb); (try clear hb2); (try clear hk); (try clear hi)) | ((with_reducible refine gate_callee (f := 39) rfl ?_); refine goesL_ (some 90) rfl rfl Try.func39 (by kernel_rfl) rfl #[.string t284, .string t285] rfl (by (try simp only [List.map_toArray, List.map_cons, List.map_nil]); first | done | rfl | (simp only [List.length_drop, List.length_take]; rfl)) ?_; (with_reducible refine (impl_GreatLess.calls k t284 t285 t308 _ A16.out).mono ?_); rintro e w' ⟨rfl, ⟨nd, rfl⟩⟩; refine ⟨_, rfl, ?_⟩))
      (try simp only [Act.put, List.setIfInBounds_toArray, List.set_cons_zero, List.set_cons_succ])
      go_cut [103] (fun v103 wc => ∃ (kq : Nat) (x103_16 : Bool), v103 = .bool x103_16 ∧ Aside0 (laws_FnGreats.j0 kq t284 t285 t287 t288 t289 t291 t294 t295 t296 t297 t303 t304 t305 t306 t307 t308 x103_16 = some r) ∧ Aside0 (kq ≤ k) ∧ Aside0 (Below w.heap.size w wc))
      case first =>
        have H := HC17.out
        clear HC17
        replace H := Option.bind_eq_some_iff.mp H
        obtain ⟨t309, A300, H⟩ := H
        replace H : (if t309 = true then ((impl_FiguresOk.f k t286).bind fun t310 => (if t310 = true then ((impl_FiguresOk.f k t290).bind fun t311 => (laws_FnGreats.j0 k t284 t285 t287 t288 t289 t291 t294 t295 t296 t297 t303 t304 t305 t306 t307 t308 (!t311))) else (laws_FnGreats.j0 k t284 t285 t287 t288 t289 t291 t294 t295 t296 t297 t303 t304 t305 t306 t307 t308 true))) else (laws_FnGreats.j0 k t284 t285 t287 t288 t289 t291 t294 t295 t296 t297 t303 t304 t305 t306 t307 t308 true)) = some r := H
        have A30 := Aside0.mk A300
        clear A300
        by_cases c31 : t309 = true
        · subst c31
          have H1 : ((impl_FiguresOk.f k t286).bind fun t310 => (if t310 = true then ((impl_FiguresOk.f k t290).bind fun t311 => (laws_FnGreats.j0 k t284 t285 t287 t288 t289 t291 t294 t295 t296 t297 t303 t304 t305 t306 t307 t308 (!t311))) else (laws_FnGreats.j0 k t284 t285 t287 t288 t289 t291 t294 t295 t296 t297 t303 t304 t305 t306 t307 t308 true))) = some r := by rw [if_pos rfl] at H; exact H
          clear H
          have H := H1
          clear H1
          replace H := Option.bind_eq_some_iff.mp H
          obtain ⟨t310, A320, H⟩ := H
          replace H : (if t310 = true then ((impl_FiguresOk.f k t290).bind fun t311 => (laws_FnGreats.j0 k t284 t285 t287 t288 t289 t291 t294 t295 t296 t297 t303 t304 t305 t306 t307 t308 (!t311))) else (laws_FnGreats.j0 k t284 t285 t287 t288 t289 t291 t294 t295 t296 t297 t303 t304 t305 t306 t307 t308 true)) = some r := H
          have A32 := Aside0.mk A320
          clear A320
          by_cases c33 : t310 = true
          · subst c33
            have H1 : ((impl_FiguresOk.f k t290).bind fun t311 => (laws_FnGreats.j0 k t284 t285 t287 t288 t289 t291 t294 t295 t296 t297 t303 t304 t305 t306 t307 t308 (!t311))) = some r := by rw [if_pos rfl] at H; exact H
            clear H
            have H := H1
            clear H1
            replace H := Option.bind_eq_some_iff.mp H
            obtain ⟨t311, A340, H⟩ := H
            replace H : (laws_FnGreats.j0 k t284 t285 t287 t288 t289 t291 t294 t295 t296 t297 t303 t304 t305 t306 t307 t308 (!t311)) = some r := H
            have A34 := Aside0.mk A340
            clear A340
            have H' := Aside0.mk H
            clear H
            go_wp2_with (first | ((with_reducible refine gate_callee (f := 40) rfl ?_); refine goesL_ (some 92) rfl rfl Try.func40 (by kernel_rfl) rfl #[.string t284] rfl (by (try simp only [List.map_toArray, List.map_cons, List.map_nil]); first | done | rfl | (simp only [List.length_drop, List.length_take]; rfl)) ?_; (with_reducible refine (impl_FiguresOk.calls k t284 true _ A30.out).mono ?_); rintro e w' ⟨rfl, ⟨nd, rfl⟩⟩; refine ⟨_, rfl, ?_⟩) | (go_at_call 40; (with_reducible refine (impl_FiguresOk.calls k t286 true _ A32.out).mono ?_); rintro e w' ⟨rfl, ⟨nd, rfl⟩⟩) | (go_at_call 40; (with_reducible refine (impl_FiguresOk.calls k t290 t311 _ A34.out).mono ?_); rintro e w' ⟨rfl, ⟨nd, rfl⟩⟩))
            go_meet
            case rel => exact ⟨_, (!t311), (by first | rfl | (refine congrArg Ending.returned (congrArg (Value.int .i64) (?_ : (0 : Int) = _)); decide +kernel) | (simp; done) | (simp [*]; done)), H', ⟨by first | omega | exact Nat.le_refl _⟩, ⟨by repeat (first | (with_reducible first | exact HB.out | apply below_alloc | apply pw_below_drewN | apply below_drew1) | exact HB.out)⟩⟩
          · replace c33 := Bool.eq_false_iff.mpr c33
            subst c33
            have H1 : (laws_FnGreats.j0 k t284 t285 t287 t288 t289 t291 t294 t295 t296 t297 t303 t304 t305 t306 t307 t308 true) = some r := by rw [if_neg (show ¬ (false = true) by decide)] at H; exact H
            clear H
            have H := H1
            clear H1
            have H' := Aside0.mk H
            clear H
            go_wp2_with (first | ((with_reducible refine gate_callee (f := 40) rfl ?_); refine goesL_ (some 92) rfl rfl Try.func40 (by kernel_rfl) rfl #[.string t284] rfl (by (try simp only [List.map_toArray, List.map_cons, List.map_nil]); first | done | rfl | (simp only [List.length_drop, List.length_take]; rfl)) ?_; (with_reducible refine (impl_FiguresOk.calls k t284 true _ A30.out).mono ?_); rintro e w' ⟨rfl, ⟨nd, rfl⟩⟩; refine ⟨_, rfl, ?_⟩) | (go_at_call 40; (with_reducible refine (impl_FiguresOk.calls k t286 false _ A32.out).mono ?_); rintro e w' ⟨rfl, ⟨nd, rfl⟩⟩))
            go_meet
            case rel => exact ⟨_, (true), (by first | rfl | (refine congrArg Ending.returned (congrArg (Value.int .i64) (?_ : (0 : Int) = _)); decide +kernel) | (simp; done) | (simp [*]; done)), H', ⟨by first | omega | exact Nat.le_refl _⟩, ⟨by repeat (first | (with_reducible first | exact HB.out | apply below_alloc | apply pw_below_drewN | apply below_drew1) | exact HB.out)⟩⟩
        · replace c31 := Bool.eq_false_iff.mpr c31
          subst c31
          have H1 : (laws_FnGreats.j0 k t284 t285 t287 t288 t289 t291 t294 t295 t296 t297 t303 t304 t305 t306 t307 t308 true) = some r := by rw [if_neg (show ¬ (false = true) by decide)] at H; exact H
          clear H
          have H := H1
          clear H1
          have H' := Aside0.mk H
          clear H
          go_wp2_with (first | ((with_reducible refine gate_callee (f := 40) rfl ?_); refine goesL_ (some 92) rfl rfl Try.func40 (by kernel_rfl) rfl #[.string t284] rfl (by (try simp only [List.map_toArray, List.map_cons, List.map_nil]); first | done | rfl | (simp only [List.length_drop, List.length_take]; rfl)) ?_; (with_reducible refine (impl_FiguresOk.calls k t284 false _ A30.out).mono ?_); rintro e w' ⟨rfl, ⟨nd, rfl⟩⟩; refine ⟨_, rfl, ?_⟩))
          go_meet
          case rel => exact ⟨_, (true), (by first | rfl | (refine congrArg Ending.returned (congrArg (Value.int .i64) (?_ : (0 : Int) = _)); decide +kernel) | (simp; done) | (simp [*]; done)), H', ⟨by first | omega | exact Nat.le_refl _⟩, ⟨by repeat (first | (with_reducible first | exact HB.out | apply below_alloc | apply pw_below_drewN | apply below_drew1) | exact HB.out)⟩⟩
      case rest =>
        clear HC17
        try clear c1
        try clear c2
        try clear p2
        try clear c3
        try clear p3
        try clear q3
        try clear hx3
        try clear qi3
        try clear c4
        try clear p6
        try clear c9
        try clear c12
        try clear c12b0
        try clear c12b1
        try clear c14
        try clear c16
        try clear c18
        try clear c20
        try clear c21
        try clear p30
        try clear q30
        try clear hx30
        try clear qi30
        try clear c31
        try clear c33
        try clear hx301_0
        try clear p301
        try clear q301
        obtain ⟨kq, x103_16, rfl, HA, HJ16, HB⟩ := hcut
        cases kq with
        | zero => exact absurd HA.out (by simp [laws_FnGreats.j0])
        | succ kj16 =>
          have H := HA.out
          clear HA
          simp only [laws_FnGreats.j0] at H
          by_cases c35 : x103_16 = true
          · subst c35
            have H1 : (some false) = some r := by rw [if_pos rfl] at H; exact H
            clear H
            have H := H1
            clear H1
            obtain rfl := Option.some.inj H
            go_wp2
            go_ret
            exact ⟨by first | rfl | (refine congrArg Ending.returned (congrArg (Value.int .i64) (?_ : (0 : Int) = _)); decide +kernel) | (simp [errW_none, errW_some] <;> rfl) | (simp [*, errW_none, errW_some] <;> rfl), by repeat (first | (with_reducible first | exact HB.out | apply below_alloc | apply pw_below_drewN | apply below_drew1) | exact HB.out)⟩
          · replace c35 := Bool.eq_false_iff.mpr c35
            subst c35
            have H1 : (if t287 = true then (if t289 = true then (if t291 = true then (if t295 = true then (if t297 = true then (if t303 = true then (if t305 = true then (if t307 = true then (if t288.toList = t284.toList then (if t294.toList = t296.toList then (if t304.toList = t306.toList then (if t308 = true then ((impl_GreatLess.f kj16 t285 t284).bind fun t312 => (if t312 = true then (some false) else (some true))) else ((impl_GreatLess.f kj16 t285 t284).bind fun t313 => (if t313 = true then (some true) else (some (t284.toList == t285.toList))))) else (some false)) else (some false)) else (some false)) else (some false)) else (some false)) else (some false)) else (some false)) else (some false)) else (some false)) else (some false)) else (some false)) = some r := by rw [if_neg (show ¬ (false = true) by decide)] at H; exact H
            clear H
            have H := H1
            clear H1
            by_cases c36 : t287 = true
            · subst c36
              have H1 : (if t289 = true then (if t291 = true then (if t295 = true then (if t297 = true then (if t303 = true then (if t305 = true then (if t307 = true then (if t288.toList = t284.toList then (if t294.toList = t296.toList then (if t304.toList = t306.toList then (if t308 = true then ((impl_GreatLess.f kj16 t285 t284).bind fun t312 => (if t312 = true then (some false) else (some true))) else ((impl_GreatLess.f kj16 t285 t284).bind fun t313 => (if t313 = true then (some true) else (some (t284.toList == t285.toList))))) else (some false)) else (some false)) else (some false)) else (some false)) else (some false)) else (some false)) else (some false)) else (some false)) else (some false)) else (some false)) = some r := by rw [if_pos rfl] at H; exact H
              clear H
              have H := H1
              clear H1
              by_cases c37 : t289 = true
              · subst c37
                have H1 : (if t291 = true then (if t295 = true then (if t297 = true then (if t303 = true then (if t305 = true then (if t307 = true then (if t288.toList = t284.toList then (if t294.toList = t296.toList then (if t304.toList = t306.toList then (if t308 = true then ((impl_GreatLess.f kj16 t285 t284).bind fun t312 => (if t312 = true then (some false) else (some true))) else ((impl_GreatLess.f kj16 t285 t284).bind fun t313 => (if t313 = true then (some true) else (some (t284.toList == t285.toList))))) else (some false)) else (some false)) else (some false)) else (some false)) else (some false)) else (some false)) else (some false)) else (some false)) else (some false)) = some r := by rw [if_pos rfl] at H; exact H
                clear H
                have H := H1
                clear H1
                by_cases c38 : t291 = true
                · subst c38
                  have H1 : (if t295 = true then (if t297 = true then (if t303 = true then (if t305 = true then (if t307 = true then (if t288.toList = t284.toList then (if t294.toList = t296.toList then (if t304.toList = t306.toList then (if t308 = true then ((impl_GreatLess.f kj16 t285 t284).bind fun t312 => (if t312 = true then (some false) else (some true))) else ((impl_GreatLess.f kj16 t285 t284).bind fun t313 => (if t313 = true then (some true) else (some (t284.toList == t285.toList))))) else (some false)) else (some false)) else (some false)) else (some false)) else (some false)) else (some false)) else (some false)) else (some false)) = some r := by rw [if_pos rfl] at H; exact H
                  clear H
                  have H := H1
                  clear H1
                  by_cases c39 : t295 = true
                  · subst c39
                    have H1 : (if t297 = true then (if t303 = true then (if t305 = true then (if t307 = true then (if t288.toList = t284.toList then (if t294.toList = t296.toList then (if t304.toList = t306.toList then (if t308 = true then ((impl_GreatLess.f kj16 t285 t284).bind fun t312 => (if t312 = true then (some false) else (some true))) else ((impl_GreatLess.f kj16 t285 t284).bind fun t313 => (if t313 = true then (some true) else (some (t284.toList == t285.toList))))) else (some false)) else (some false)) else (some false)) else (some false)) else (some false)) else (some false)) else (some false)) = some r := by rw [if_pos rfl] at H; exact H
                    clear H
                    have H := H1
                    clear H1
                    by_cases c40 : t297 = true
                    · subst c40
                      have H1 : (if t303 = true then (if t305 = true then (if t307 = true then (if t288.toList = t284.toList then (if t294.toList = t296.toList then (if t304.toList = t306.toList then (if t308 = true then ((impl_GreatLess.f kj16 t285 t284).bind fun t312 => (if t312 = true then (some false) else (some true))) else ((impl_GreatLess.f kj16 t285 t284).bind fun t313 => (if t313 = true then (some true) else (some (t284.toList == t285.toList))))) else (some false)) else (some false)) else (some false)) else (some false)) else (some false)) else (some false)) = some r := by rw [if_pos rfl] at H; exact H
                      clear H
                      have H := H1
                      clear H1
                      by_cases c41 : t303 = true
                      · subst c41
                        have H1 : (if t305 = true then (if t307 = true then (if t288.toList = t284.toList then (if t294.toList = t296.toList then (if t304.toList = t306.toList then (if t308 = true then ((impl_GreatLess.f kj16 t285 t284).bind fun t312 => (if t312 = true then (some false) else (some true))) else ((impl_GreatLess.f kj16 t285 t284).bind fun t313 => (if t313 = true then (some true) else (some (t284.toList == t285.toList))))) else (some false)) else (some false)) else (some false)) else (some false)) else (some false)) = some r := by rw [if_pos rfl] at H; exact H
                        clear H
                        have H := H1
                        clear H1
                        by_cases c42 : t305 = true
                        · subst c42
                          have H1 : (if t307 = true then (if t288.toList = t284.toList then (if t294.toList = t296.toList then (if t304.toList = t306.toList then (if t308 = true then ((impl_GreatLess.f kj16 t285 t284).bind fun t312 => (if t312 = true then (some false) else (some true))) else ((impl_GreatLess.f kj16 t285 t284).bind fun t313 => (if t313 = true then (some true) else (some (t284.toList == t285.toList))))) else (some false)) else (some false)) else (some false)) else (some false)) = some r := by rw [if_pos rfl] at H; exact H
                          clear H
                          have H := H1
                          clear H1
                          by_cases c43 : t307 = true
                          · subst c43
                            have H1 : (if t288.toList = t284.toList then (if t294.toList = t296.toList then (if t304.toList = t306.toList then (if t308 = true then ((impl_GreatLess.f kj16 t285 t284).bind fun t312 => (if t312 = true then (some false) else (some true))) else ((impl_GreatLess.f kj16 t285 t284).bind fun t313 => (if t313 = true then (some true) else (some (t284.toList == t285.toList))))) else (some false)) else (some false)) else (some false)) = some r := by rw [if_pos rfl] at H; exact H
                            clear H
                            have H := H1
                            clear H1
                            by_cases c44 : t288.toList = t284.toList
                            · rw [if_pos c44] at H
                              have c44b0 : (t288.toList == t284.toList) = true := beq_iff_eq.mpr c44
                              have c44b1 : (t288.toList != t284.toList) = false := bne_eq_false_iff_eq.mpr c44
                              clear c44
                              by_cases c45 : t294.toList = t296.toList
                              · rw [if_pos c45] at H
                                have c45b0 : (t294.toList == t296.toList) = true := beq_iff_eq.mpr c45
                                have c45b1 : (t294.toList != t296.toList) = false := bne_eq_false_iff_eq.mpr c45
                                clear c45
                                by_cases c46 : t304.toList = t306.toList
                                · rw [if_pos c46] at H
                                  have c46b0 : (t304.toList == t306.toList) = true := beq_iff_eq.mpr c46
                                  have c46b1 : (t304.toList != t306.toList) = false := bne_eq_false_iff_eq.mpr c46
                                  clear c46
                                  by_cases c47 : t308 = true
                                  · subst c47
                                    have H1 : ((impl_GreatLess.f kj16 t285 t284).bind fun t312 => (if t312 = true then (some false) else (some true))) = some r := by rw [if_pos rfl] at H; exact H
                                    clear H
                                    have H := H1
                                    clear H1
                                    replace H := Option.bind_eq_some_iff.mp H
                                    obtain ⟨t312, A480, H⟩ := H
                                    replace H : (if t312 = true then (some false) else (some true)) = some r := H
                                    have A48 := Aside0.mk A480
                                    clear A480
                                    by_cases c49 : t312 = true
                                    · subst c49
                                      have H1 : (some false) = some r := by rw [if_pos rfl] at H; exact H
                                      clear H
                                      have H := H1
                                      clear H1
                                      obtain rfl := Option.some.inj H
                                      go_wp2_with (first | (go_at_call 39; (with_reducible refine (impl_GreatLess.calls kj16 t285 t284 true _ A48.out).mono ?_); rintro e w' ⟨rfl, ⟨nd, rfl⟩⟩))
                                      go_ret
                                      exact ⟨by first | rfl | (refine congrArg Ending.returned (congrArg (Value.int .i64) (?_ : (0 : Int) = _)); decide +kernel) | (simp [errW_none, errW_some] <;> rfl) | (simp [*, errW_none, errW_some] <;> rfl), by repeat (first | (with_reducible first | exact HB.out | apply below_alloc | apply pw_below_drewN | apply below_drew1) | exact HB.out)⟩
                                    · replace c49 := Bool.eq_false_iff.mpr c49
                                      subst c49
                                      have H1 : (some true) = some r := by rw [if_neg (show ¬ (false = true) by decide)] at H; exact H
                                      clear H
                                      have H := H1
                                      clear H1
                                      obtain rfl := Option.some.inj H
                                      go_wp2_with (first | (go_at_call 39; (with_reducible refine (impl_GreatLess.calls kj16 t285 t284 false _ A48.out).mono ?_); rintro e w' ⟨rfl, ⟨nd, rfl⟩⟩))
                                      go_ret
                                      exact ⟨by first | rfl | (refine congrArg Ending.returned (congrArg (Value.int .i64) (?_ : (0 : Int) = _)); decide +kernel) | (simp [errW_none, errW_some] <;> rfl) | (simp [*, errW_none, errW_some] <;> rfl), by repeat (first | (with_reducible first | exact HB.out | apply below_alloc | apply pw_below_drewN | apply below_drew1) | exact HB.out)⟩
                                  · replace c47 := Bool.eq_false_iff.mpr c47
                                    subst c47
                                    have H1 : ((impl_GreatLess.f kj16 t285 t284).bind fun t313 => (if t313 = true then (some true) else (some (t284.toList == t285.toList)))) = some r := by rw [if_neg (show ¬ (false = true) by decide)] at H; exact H
                                    clear H
                                    have H := H1
                                    clear H1
                                    replace H := Option.bind_eq_some_iff.mp H
                                    obtain ⟨t313, A500, H⟩ := H
                                    replace H : (if t313 = true then (some true) else (some (t284.toList == t285.toList))) = some r := H
                                    have A50 := Aside0.mk A500
                                    clear A500
                                    by_cases c51 : t313 = true
                                    · subst c51
                                      have H1 : (some true) = some r := by rw [if_pos rfl] at H; exact H
                                      clear H
                                      have H := H1
                                      clear H1
                                      obtain rfl := Option.some.inj H
                                      go_wp2_with (first | (go_at_call 39; (with_reducible refine (impl_GreatLess.calls kj16 t285 t284 true _ A50.out).mono ?_); rintro e w' ⟨rfl, ⟨nd, rfl⟩⟩))
                                      go_ret
                                      exact ⟨by first | rfl | (refine congrArg Ending.returned (congrArg (Value.int .i64) (?_ : (0 : Int) = _)); decide +kernel) | (simp [errW_none, errW_some] <;> rfl) | (simp [*, errW_none, errW_some] <;> rfl), by repeat (first | (with_reducible first | exact HB.out | apply below_alloc | apply pw_below_drewN | apply below_drew1) | exact HB.out)⟩
                                    · replace c51 := Bool.eq_false_iff.mpr c51
                                      subst c51
                                      have H1 : (some (t284.toList == t285.toList)) = some r := by rw [if_neg (show ¬ (false = true) by decide)] at H; exact H
                                      clear H
                                      have H := H1
                                      clear H1
                                      obtain rfl := Option.some.inj H
                                      go_wp2_with (first | (go_at_call 39; (with_reducible refine (impl_GreatLess.calls kj16 t285 t284 false _ A50.out).mono ?_); rintro e w' ⟨rfl, ⟨nd, rfl⟩⟩))
                                      go_ret
                                      exact ⟨by first | rfl | (refine congrArg Ending.returned (congrArg (Value.int .i64) (?_ : (0 : Int) = _)); decide +kernel) | (simp [errW_none, errW_some] <;> rfl) | (simp [*, errW_none, errW_some] <;> rfl), by repeat (first | (with_reducible first | exact HB.out | apply below_alloc | apply pw_below_drewN | apply below_drew1) | exact HB.out)⟩
                                · rw [if_neg c46] at H
                                  have c46b0 : (t304.toList == t306.toList) = false := beq_eq_false_iff_ne.mpr c46
                                  have c46b1 : (t304.toList != t306.toList) = true := bne_iff_ne.mpr c46
                                  obtain rfl := Option.some.inj H
                                  go_wp2
                                  go_ret
                                  exact ⟨by first | rfl | (refine congrArg Ending.returned (congrArg (Value.int .i64) (?_ : (0 : Int) = _)); decide +kernel) | (simp [errW_none, errW_some] <;> rfl) | (simp [*, errW_none, errW_some] <;> rfl), by repeat (first | (with_reducible first | exact HB.out | apply below_alloc | apply pw_below_drewN | apply below_drew1) | exact HB.out)⟩
                              · rw [if_neg c45] at H
                                have c45b0 : (t294.toList == t296.toList) = false := beq_eq_false_iff_ne.mpr c45
                                have c45b1 : (t294.toList != t296.toList) = true := bne_iff_ne.mpr c45
                                obtain rfl := Option.some.inj H
                                go_wp2
                                go_ret
                                exact ⟨by first | rfl | (refine congrArg Ending.returned (congrArg (Value.int .i64) (?_ : (0 : Int) = _)); decide +kernel) | (simp [errW_none, errW_some] <;> rfl) | (simp [*, errW_none, errW_some] <;> rfl), by repeat (first | (with_reducible first | exact HB.out | apply below_alloc | apply pw_below_drewN | apply below_drew1) | exact HB.out)⟩
                            · rw [if_neg c44] at H
                              have c44b0 : (t288.toList == t284.toList) = false := beq_eq_false_iff_ne.mpr c44
                              have c44b1 : (t288.toList != t284.toList) = true := bne_iff_ne.mpr c44
                              obtain rfl := Option.some.inj H
                              go_wp2
                              go_ret
                              exact ⟨by first | rfl | (refine congrArg Ending.returned (congrArg (Value.int .i64) (?_ : (0 : Int) = _)); decide +kernel) | (simp [errW_none, errW_some] <;> rfl) | (simp [*, errW_none, errW_some] <;> rfl), by repeat (first | (with_reducible first | exact HB.out | apply below_alloc | apply pw_below_drewN | apply below_drew1) | exact HB.out)⟩
                          · replace c43 := Bool.eq_false_iff.mpr c43
                            subst c43
                            have H1 : (some false) = some r := by rw [if_neg (show ¬ (false = true) by decide)] at H; exact H
                            clear H
                            have H := H1
                            clear H1
                            obtain rfl := Option.some.inj H
                            go_wp2
                            go_ret
                            exact ⟨by first | rfl | (refine congrArg Ending.returned (congrArg (Value.int .i64) (?_ : (0 : Int) = _)); decide +kernel) | (simp [errW_none, errW_some] <;> rfl) | (simp [*, errW_none, errW_some] <;> rfl), by repeat (first | (with_reducible first | exact HB.out | apply below_alloc | apply pw_below_drewN | apply below_drew1) | exact HB.out)⟩
                        · replace c42 := Bool.eq_false_iff.mpr c42
                          subst c42
                          have H1 : (some false) = some r := by rw [if_neg (show ¬ (false = true) by decide)] at H; exact H
                          clear H
                          have H := H1
                          clear H1
                          obtain rfl := Option.some.inj H
                          go_wp2
                          go_ret
                          exact ⟨by first | rfl | (refine congrArg Ending.returned (congrArg (Value.int .i64) (?_ : (0 : Int) = _)); decide +kernel) | (simp [errW_none, errW_some] <;> rfl) | (simp [*, errW_none, errW_some] <;> rfl), by repeat (first | (with_reducible first | exact HB.out | apply below_alloc | apply pw_below_drewN | apply below_drew1) | exact HB.out)⟩
                      · replace c41 := Bool.eq_false_iff.mpr c41
                        subst c41
                        have H1 : (some false) = some r := by rw [if_neg (show ¬ (false = true) by decide)] at H; exact H
                        clear H
                        have H := H1
                        clear H1
                        obtain rfl := Option.some.inj H
                        go_wp2
                        go_ret
                        exact ⟨by first | rfl | (refine congrArg Ending.returned (congrArg (Value.int .i64) (?_ : (0 : Int) = _)); decide +kernel) | (simp [errW_none, errW_some] <;> rfl) | (simp [*, errW_none, errW_some] <;> rfl), by repeat (first | (with_reducible first | exact HB.out | apply below_alloc | apply pw_below_drewN | apply below_drew1) | exact HB.out)⟩
                    · replace c40 := Bool.eq_false_iff.mpr c40
                      subst c40
                      have H1 : (some false) = some r := by rw [if_neg (show ¬ (false = true) by decide)] at H; exact H
                      clear H
                      have H := H1
                      clear H1
                      obtain rfl := Option.some.inj H
                      go_wp2
                      go_ret
                      exact ⟨by first | rfl | (refine congrArg Ending.returned (congrArg (Value.int .i64) (?_ : (0 : Int) = _)); decide +kernel) | (simp [errW_none, errW_some] <;> rfl) | (simp [*, errW_none, errW_some] <;> rfl), by repeat (first | (with_reducible first | exact HB.out | apply below_alloc | apply pw_below_drewN | apply below_drew1) | exact HB.out)⟩
                  · replace c39 := Bool.eq_false_iff.mpr c39
                    subst c39
                    have H1 : (some false) = some r := by rw [if_neg (show ¬ (false = true) by decide)] at H; exact H
                    clear H
                    have H := H1
                    clear H1
                    obtain rfl := Option.some.inj H
                    go_wp2
                    go_ret
                    exact ⟨by first | rfl | (refine congrArg Ending.returned (congrArg (Value.int .i64) (?_ : (0 : Int) = _)); decide +kernel) | (simp [errW_none, errW_some] <;> rfl) | (simp [*, errW_none, errW_some] <;> rfl), by repeat (first | (with_reducible first | exact HB.out | apply below_alloc | apply pw_below_drewN | apply below_drew1) | exact HB.out)⟩
                · replace c38 := Bool.eq_false_iff.mpr c38
                  subst c38
                  have H1 : (some false) = some r := by rw [if_neg (show ¬ (false = true) by decide)] at H; exact H
                  clear H
                  have H := H1
                  clear H1
                  obtain rfl := Option.some.inj H
                  go_wp2
                  go_ret
                  exact ⟨by first | rfl | (refine congrArg Ending.returned (congrArg (Value.int .i64) (?_ : (0 : Int) = _)); decide +kernel) | (simp [errW_none, errW_some] <;> rfl) | (simp [*, errW_none, errW_some] <;> rfl), by repeat (first | (with_reducible first | exact HB.out | apply below_alloc | apply pw_below_drewN | apply below_drew1) | exact HB.out)⟩
              · replace c37 := Bool.eq_false_iff.mpr c37
                subst c37
                have H1 : (some false) = some r := by rw [if_neg (show ¬ (false = true) by decide)] at H; exact H
                clear H
                have H := H1
                clear H1
                obtain rfl := Option.some.inj H
                go_wp2
                go_ret
                exact ⟨by first | rfl | (refine congrArg Ending.returned (congrArg (Value.int .i64) (?_ : (0 : Int) = _)); decide +kernel) | (simp [errW_none, errW_some] <;> rfl) | (simp [*, errW_none, errW_some] <;> rfl), by repeat (first | (with_reducible first | exact HB.out | apply below_alloc | apply pw_below_drewN | apply below_drew1) | exact HB.out)⟩
            · replace c36 := Bool.eq_false_iff.mpr c36
              subst c36
              have H1 : (some false) = some r := by rw [if_neg (show ¬ (false = true) by decide)] at H; exact H
              clear H
              have H := H1
              clear H1
              obtain rfl := Option.some.inj H
              go_wp2
              go_ret
              exact ⟨by first | rfl | (refine congrArg Ending.returned (congrArg (Value.int .i64) (?_ : (0 : Int) = _)); decide +kernel) | (simp [errW_none, errW_some] <;> rfl) | (simp [*, errW_none, errW_some] <;> rfl), by repeat (first | (with_reducible first | exact HB.out | apply below_alloc | apply pw_below_drewN | apply below_drew1) | exact HB.out)⟩
    · rw [if_neg c12] at H
      exact absurd H (by simp)

/-- THE ONE PURE STATEMENT of laws_FnGreats: yours. -/
def laws_FnGreats.Pure : Prop := ∀ (l0 : List Int), l0.length ≤ maxLen → l0.length * 1 ≤ 140737488351232 → (∀ x ∈ l0, (Lit.int .u8 x).wf = true) → ∃ k, laws_FnGreats.f k l0 = some true
theorem laws_FnGreats.walk (P : laws_FnGreats.Pure) (a0 : Option Addr) (len0 cap0 : Nat) (z0 : List Int) (w : World) (w0 : (a0 = none ∧ len0 = 0 ∧ cap0 = 0 ∧ z0 = []) ∨ ∃ x, a0 = some x ∧ len0 ≤ cap0 ∧ cap0 ≤ maxLen ∧ z0.length = cap0 ∧ (∀ i, i < z0.length → w.cell? (x.add i) = some (.int .u8 (z0.getD i 0))) ∧ ∀ n ∈ z0, (Lit.int .u8 n).wf = true) (y0 : len0 * 1 ≤ 140737488351232) :
    Calls Try.prog 9 #[.slice a0 len0 cap0] w fun e w' => e = .returned (.bool true) ∧ Below w.heap.size w w' := by
  obtain ⟨l0, rfl, hr0, hm0, hw0, hc0⟩ := ReadsInt.ofRowC w0
  obtain ⟨k, h⟩ := P l0 hm0 y0 hw0
  refine (laws_FnGreats.calls k _ _ l0 true w (Kd.C_of_reads (d := (0 : Int)) (h1 := fun _ => rfl) hr0) hc0 h).mono ?_
  rintro e w' ⟨rfl, hd⟩
  exact ⟨rfl, hd⟩

end Go.Proofs.Ythbbdnicpbbnpaa.MFnGreats
