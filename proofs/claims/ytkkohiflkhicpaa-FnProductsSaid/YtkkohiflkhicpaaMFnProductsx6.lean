-- by this session's own program mp.py over the kit's printer
import Derived.Test.YtkkohiflkhicpaaMFnProductsx0
import Derived.Test.YtkkohiflkhicpaaMFnProductsx1
import Derived.Test.YtkkohiflkhicpaaMFnProductsx3
import Derived.Test.YtkkohiflkhicpaaMFnProductsx4
import Derived.Test.YtkkohiflkhicpaaMFnProductsx5
namespace Go.Proofs.Ytkkohiflkhicpaa.MFnProducts
open Go.RowKit Go.Proofs.YtkkohiflkhicpaaW.PrintWords Go.Proofs.YtkkohiflkhicpaaW.PrintLast Go.Proofs.YtkkohiflkhicpaaW.PrintMore
attribute [local go_sem] max2_int min2_int max_two min_two max_three min_three max_four min_four   -- for this text's walks alone
set_option linter.unusedVariables false
set_option linter.unusedSimpArgs false

/-! ### impl_Negate: function 39 -/
def impl_Negate.f (a0 : Int) : Option (Int) := (impl_isNaN.f a0).bind fun t223 => (if t223 = true then (some 9221120237041090560) else (some (Go.bits .xor .u64 a0 9223372036854775808)))
set_option maxHeartbeats 8000000 in
set_option maxRecDepth 100000 in
theorem impl_Negate.calls (a0 : Int) (r : Int) (w : World) (h : impl_Negate.f a0 = some r) :
    Calls Try.prog 39 #[.int .u64 a0] w fun e w' => e = .returned (.int .u64 r) ∧ Drawn0 w w' := by
  have H : ((impl_isNaN.f a0).bind fun t223 => (if t223 = true then (some 9221120237041090560) else (some (Go.bits .xor .u64 a0 9223372036854775808)))) = some r := h
  clear h
  replace H := Option.bind_eq_some_iff.mp H
  obtain ⟨t223, A20, H⟩ := H
  replace H : (if t223 = true then (some 9221120237041090560) else (some (Go.bits .xor .u64 a0 9223372036854775808))) = some r := H
  have A2 := Aside0.mk A20
  clear A20
  by_cases c3 : t223 = true
  · subst c3
    have H1 : (some 9221120237041090560) = some r := by rw [if_pos rfl] at H; exact H
    clear H
    have H := H1
    clear H1
    obtain rfl := Option.some.inj H
    go_enter Try.func39, Try.ntmps39
    go_wp2_with (first | ((with_reducible refine gate_callee (f := 50) rfl ?_); refine goesL_ (some 4) rfl rfl Try.func50 (by kernel_rfl) rfl #[.int .u64 a0] rfl (by (try simp only [List.map_toArray, List.map_cons, List.map_nil]); first | done | rfl | (simp only [List.length_drop, List.length_take]; rfl)) ?_; (with_reducible refine (impl_isNaN.calls a0 true _ A2.out).mono ?_); rintro e w' ⟨rfl, ⟨nd, rfl⟩⟩; refine ⟨_, rfl, ?_⟩))
    go_ret
    exact ⟨by first | rfl | (refine congrArg Ending.returned (congrArg (Value.int .i64) (?_ : (0 : Int) = _)); decide +kernel) | (simp; done) | (simp [*]; done), by repeat (first | exact Drawn0.refl _ | apply Drawn0.step)⟩
  · replace c3 := Bool.eq_false_iff.mpr c3
    subst c3
    have H1 : (some (Go.bits .xor .u64 a0 9223372036854775808)) = some r := by rw [if_neg (show ¬ (false = true) by decide)] at H; exact H
    clear H
    have H := H1
    clear H1
    obtain rfl := Option.some.inj H
    go_enter Try.func39, Try.ntmps39
    go_wp2_with (first | ((with_reducible refine gate_callee (f := 50) rfl ?_); refine goesL_ (some 4) rfl rfl Try.func50 (by kernel_rfl) rfl #[.int .u64 a0] rfl (by (try simp only [List.map_toArray, List.map_cons, List.map_nil]); first | done | rfl | (simp only [List.length_drop, List.length_take]; rfl)) ?_; (with_reducible refine (impl_isNaN.calls a0 false _ A2.out).mono ?_); rintro e w' ⟨rfl, ⟨nd, rfl⟩⟩; refine ⟨_, rfl, ?_⟩))
    go_ret
    exact ⟨by first | rfl | (refine congrArg Ending.returned (congrArg (Value.int .i64) (?_ : (0 : Int) = _)); decide +kernel) | (simp; done) | (simp [*]; done), by repeat (first | exact Drawn0.refl _ | apply Drawn0.step)⟩

/-! ### laws_FnProducts: function 13 -/
mutual
def laws_FnProducts.j0 : Nat → Int → Int → Bool → Option (Bool)
  | 0, _, _, _ => none
  | k + 1, x3, x6, x30 => if x30 = true then (some false) else ((laws_nan.f k x3).bind fun t231 => (if t231 = true then ((laws_nan.f k x6).bind fun t232 => (some t232)) else ((spec_PartsOfNumber.f k x3).bind fun bt233 => ((laws_whole.f k 1).bind fun t238 => ((impl_Mul.f x3 t238).bind fun t239 => (if t239 = x3 then ((laws_whole.f k 1).bind fun t240 => ((impl_Div.f x3 t240).bind fun t241 => (laws_FnProducts.j1 k x3 (t241 != x3) bt233.1 bt233.2.1 bt233.2.2.1 bt233.2.2.2))) else (laws_FnProducts.j1 k x3 true bt233.1 bt233.2.1 bt233.2.2.1 bt233.2.2.2)))))))
def laws_FnProducts.j1 : Nat → Int → Bool → Int → Bool → Int → Int → Option (Bool)
  | 0, _, _, _, _, _, _ => none
  | k + 1, x3, x48, x238000, x238001, x238002, x238003 => if x48 = true then (some false) else (if x238000 = 4 then ((impl_Div.f x3 x3).bind fun t242 => ((laws_whole.f k 1).bind fun t243 => (if t242 = t243 then ((impl_Negate.f x3).bind fun t244 => ((impl_Div.f t244 x3).bind fun t245 => ((laws_whole.f k (-1)).bind fun t246 => (some (t245 == t246))))) else (some false)))) else (some true))
end
def laws_FnProducts.f (k : Nat) (l0 : List Int) : Option (Bool) := (laws_big.f l0).bind fun t224 => (if t224 = true then (some true) else ((spec_DrawNumbers.f k l0).bind fun bt225 => ((impl_Mul.f bt225.1 bt225.2.1).bind fun t228 => ((spec_Mul.f k bt225.1 bt225.2.1).bind fun t229 => (if t228 = t229 then ((impl_Mul.f bt225.2.1 bt225.1).bind fun t230 => (laws_FnProducts.j0 k bt225.1 t228 (t228 != t230))) else (laws_FnProducts.j0 k bt225.1 t228 true))))))
theorem laws_FnProducts.mono_l : ∀ k, (∀ y0 y1 y2, LeO (laws_FnProducts.j0 k y0 y1 y2) (laws_FnProducts.j0 (k + 1) y0 y1 y2)) ∧ (∀ y0 y1 y2 y3 y4 y5, LeO (laws_FnProducts.j1 k y0 y1 y2 y3 y4 y5) (laws_FnProducts.j1 (k + 1) y0 y1 y2 y3 y4 y5))
  | 0 => ⟨fun _ _ _ r h => by simp [laws_FnProducts.j0] at h, fun _ _ _ _ _ _ r h => by simp [laws_FnProducts.j1] at h⟩
  | k + 1 => by
    obtain ⟨ih0, ih1⟩ := laws_FnProducts.mono_l k
    refine ⟨?_, ?_⟩
    · intro y0 y1 y2
      unfold laws_FnProducts.j0
      repeat' first
      | (with_reducible exact ih0 _ _ _)
      | (with_reducible exact ih1 _ _ _ _ _ _)
      | (with_reducible exact laws_nan.mono _ _)
      | (with_reducible exact laws_whole.mono _ _)
      | (with_reducible exact spec_DrawNumbers.mono _ _)
      | (with_reducible exact spec_Mul.mono _ _ _)
      | (with_reducible exact spec_PartsOfNumber.mono _ _)
      | (with_reducible exact LeO.refl _)
      | (with_reducible exact LeO.none _)
      | (with_reducible refine LeO.ite ?_ ?_)
      | (with_reducible refine LeO.bind ?_ (fun _ => ?_))
      | exact ih0 _ _ _
      | exact ih1 _ _ _ _ _ _
      | exact laws_nan.mono _ _
      | exact laws_whole.mono _ _
      | exact spec_DrawNumbers.mono _ _
      | exact spec_Mul.mono _ _ _
      | exact spec_PartsOfNumber.mono _ _
      | exact LeO.none _
      | refine LeO.ite ?_ ?_
      | refine LeO.bind ?_ (fun _ => ?_)
    · intro y0 y1 y2 y3 y4 y5
      unfold laws_FnProducts.j1
      repeat' first
      | (with_reducible exact ih0 _ _ _)
      | (with_reducible exact ih1 _ _ _ _ _ _)
      | (with_reducible exact laws_nan.mono _ _)
      | (with_reducible exact laws_whole.mono _ _)
      | (with_reducible exact spec_DrawNumbers.mono _ _)
      | (with_reducible exact spec_Mul.mono _ _ _)
      | (with_reducible exact spec_PartsOfNumber.mono _ _)
      | (with_reducible exact LeO.refl _)
      | (with_reducible exact LeO.none _)
      | (with_reducible refine LeO.ite ?_ ?_)
      | (with_reducible refine LeO.bind ?_ (fun _ => ?_))
      | exact ih0 _ _ _
      | exact ih1 _ _ _ _ _ _
      | exact laws_nan.mono _ _
      | exact laws_whole.mono _ _
      | exact spec_DrawNumbers.mono _ _
      | exact spec_Mul.mono _ _ _
      | exact spec_PartsOfNumber.mono _ _
      | exact LeO.none _
      | refine LeO.ite ?_ ?_
      | refine LeO.bind ?_ (fun _ => ?_)
theorem laws_FnProducts.mono : ∀ a0 k, LeO (laws_FnProducts.f k a0) (laws_FnProducts.f (k + 1) a0) := by
  intro a0 k
  obtain ⟨ih0, ih1⟩ := laws_FnProducts.mono_l k
  unfold laws_FnProducts.f
  repeat' first
      | (with_reducible exact ih0 _ _ _)
      | (with_reducible exact ih1 _ _ _ _ _ _)
      | (with_reducible exact laws_nan.mono _ _)
      | (with_reducible exact laws_whole.mono _ _)
      | (with_reducible exact spec_DrawNumbers.mono _ _)
      | (with_reducible exact spec_Mul.mono _ _ _)
      | (with_reducible exact spec_PartsOfNumber.mono _ _)
      | (with_reducible exact LeO.refl _)
      | (with_reducible exact LeO.none _)
      | (with_reducible refine LeO.ite ?_ ?_)
      | (with_reducible refine LeO.bind ?_ (fun _ => ?_))
      | exact ih0 _ _ _
      | exact ih1 _ _ _ _ _ _
      | exact laws_nan.mono _ _
      | exact laws_whole.mono _ _
      | exact spec_DrawNumbers.mono _ _
      | exact spec_Mul.mono _ _ _
      | exact spec_PartsOfNumber.mono _ _
      | exact LeO.none _
      | refine LeO.ite ?_ ?_
      | refine LeO.bind ?_ (fun _ => ?_)
set_option maxHeartbeats 8000000 in
set_option maxRecDepth 100000 in
theorem laws_FnProducts.calls (k : Nat) (A0 : Option Addr) (c0 : Nat) (l0 : List Int) (r : Bool) (w : World) (hr0 : Kd.C (Kd.int .u8) w A0 l0.length l0) (hc0 : l0.length ≤ c0) (h : laws_FnProducts.f k l0 = some r) :
    Calls Try.prog 13 #[.slice A0 l0.length c0] w fun e w' => e = .returned (.bool r) ∧ Below w.heap.size w w' := by
  have hu33 := Try.underlying33
  have HR0 := Aside0.mk hr0
  have HC0 := Aside0.mk hc0
  clear hr0 hc0
  have HB := Aside0.mk (Below.refl w.heap.size w)
  have H : ((laws_big.f l0).bind fun t224 => (if t224 = true then (some true) else ((spec_DrawNumbers.f k l0).bind fun bt225 => ((impl_Mul.f bt225.1 bt225.2.1).bind fun t228 => ((spec_Mul.f k bt225.1 bt225.2.1).bind fun t229 => (if t228 = t229 then ((impl_Mul.f bt225.2.1 bt225.1).bind fun t230 => (laws_FnProducts.j0 k bt225.1 t228 (t228 != t230))) else (laws_FnProducts.j0 k bt225.1 t228 true))))))) = some r := h
  clear h
  replace H := Option.bind_eq_some_iff.mp H
  obtain ⟨t224, A20, H⟩ := H
  replace H : (if t224 = true then (some true) else ((spec_DrawNumbers.f k l0).bind fun bt225 => ((impl_Mul.f bt225.1 bt225.2.1).bind fun t228 => ((spec_Mul.f k bt225.1 bt225.2.1).bind fun t229 => (if t228 = t229 then ((impl_Mul.f bt225.2.1 bt225.1).bind fun t230 => (laws_FnProducts.j0 k bt225.1 t228 (t228 != t230))) else (laws_FnProducts.j0 k bt225.1 t228 true)))))) = some r := H
  have A2 := Aside0.mk A20
  clear A20
  by_cases c3 : t224 = true
  · subst c3
    have H1 : (some true) = some r := by rw [if_pos rfl] at H; exact H
    clear H
    have H := H1
    clear H1
    obtain rfl := Option.some.inj H
    go_enter Try.func13, Try.ntmps13
    go_wp2_with (first | ((with_reducible refine gate_callee (f := 21) rfl ?_); refine goesL_ (some 9) rfl rfl Try.func21 (by kernel_rfl) rfl #[.slice A0 l0.length c0] rfl (by (try simp only [List.map_toArray, List.map_cons, List.map_nil]); first | done | rfl | (simp only [List.length_drop, List.length_take]; rfl)) ?_; (with_reducible refine (laws_big.calls _ _ l0 true _ ?side1 ?side2 A2.out).mono ?_); (case side1 => repeat (first | exact HR0.out | (with_reducible refine Kd.C_alloc ?_ _) | (with_reducible refine Kd.C_drewN ?_ _) | (with_reducible refine Kd.C_drew ?_))); (case side2 => exact HC0.out); rintro e w' ⟨rfl, ⟨nd, rfl⟩⟩; refine ⟨_, rfl, ?_⟩))
    go_ret
    exact ⟨by first | rfl | (refine congrArg Ending.returned (congrArg (Value.int .i64) (?_ : (0 : Int) = _)); decide +kernel) | (simp [errW_none, errW_some] <;> rfl) | (simp [*, errW_none, errW_some] <;> rfl), by repeat (first | (with_reducible first | exact HB.out | apply below_alloc | apply pw_below_drewN | apply below_drew1) | exact HB.out)⟩
  · replace c3 := Bool.eq_false_iff.mpr c3
    subst c3
    have H1 : ((spec_DrawNumbers.f k l0).bind fun bt225 => ((impl_Mul.f bt225.1 bt225.2.1).bind fun t228 => ((spec_Mul.f k bt225.1 bt225.2.1).bind fun t229 => (if t228 = t229 then ((impl_Mul.f bt225.2.1 bt225.1).bind fun t230 => (laws_FnProducts.j0 k bt225.1 t228 (t228 != t230))) else (laws_FnProducts.j0 k bt225.1 t228 true))))) = some r := by rw [if_neg (show ¬ (false = true) by decide)] at H; exact H
    clear H
    have H := H1
    clear H1
    replace H := Option.bind_eq_some_iff.mp H
    obtain ⟨⟨t225, t226, t227⟩, A40, H⟩ := H
    replace H : ((impl_Mul.f t225 t226).bind fun t228 => ((spec_Mul.f k t225 t226).bind fun t229 => (if t228 = t229 then ((impl_Mul.f t226 t225).bind fun t230 => (laws_FnProducts.j0 k t225 t228 (t228 != t230))) else (laws_FnProducts.j0 k t225 t228 true)))) = some r := H
    have A4 := Aside0.mk A40
    clear A40
    replace H := Option.bind_eq_some_iff.mp H
    obtain ⟨t228, A50, H⟩ := H
    replace H : ((spec_Mul.f k t225 t226).bind fun t229 => (if t228 = t229 then ((impl_Mul.f t226 t225).bind fun t230 => (laws_FnProducts.j0 k t225 t228 (t228 != t230))) else (laws_FnProducts.j0 k t225 t228 true))) = some r := H
    have A5 := Aside0.mk A50
    clear A50
    have HC6 := Aside0.mk H
    clear H
    go_enter Try.func13, Try.ntmps13
    go_upto_region 5 with (first | ((with_reducible refine gate_callee (f := 21) rfl ?_); refine goesL_ (some 9) rfl rfl Try.func21 (by kernel_rfl) rfl #[.slice A0 l0.length c0] rfl (by (try simp only [List.map_toArray, List.map_cons, List.map_nil]); first | done | rfl | (simp only [List.length_drop, List.length_take]; rfl)) ?_; (with_reducible refine (laws_big.calls _ _ l0 false _ ?side1 ?side2 A2.out).mono ?_); (case side1 => repeat (first | exact HR0.out | (with_reducible refine Kd.C_alloc ?_ _) | (with_reducible refine Kd.C_drewN ?_ _) | (with_reducible refine Kd.C_drew ?_))); (case side2 => exact HC0.out); rintro e w' ⟨rfl, ⟨nd, rfl⟩⟩; refine ⟨_, rfl, ?_⟩) | ((with_reducible refine gate_callee (f := 35) rfl ?_); refine goesL_ (some 12) rfl rfl Try.func35 (by kernel_rfl) rfl #[.slice A0 l0.length c0] rfl (by (try simp only [List.map_toArray, List.map_cons, List.map_nil]); first | done | rfl | (simp only [List.length_drop, List.length_take]; rfl)) ?_; (with_reducible refine (spec_DrawNumbers.calls k _ _ l0 t225 t226 t227 _ ?side1 ?side2 A4.out).mono ?_); (case side1 => repeat (first | exact HR0.out | (with_reducible refine Kd.C_alloc ?_ _) | (with_reducible refine Kd.C_drewN ?_ _) | (with_reducible refine Kd.C_drew ?_))); (case side2 => exact HC0.out); rintro e w7 ⟨rfl, hb⟩; refine ⟨_, rfl, ?_⟩; have n0_ := Aside0.mk (below_step (by repeat (first | (with_reducible first | exact HB.out | apply below_alloc | apply pw_below_drewN | apply below_drew1) | exact HB.out)) hb); clear HB; have HB := n0_; clear n0_; (try clear hb); (try clear hb2); (try clear hk); (try clear hi)) | ((with_reducible refine gate_callee (f := 27) rfl ?_); refine goesL_ (some 18) rfl rfl Try.func27 (by kernel_rfl) rfl #[.int .u64 t225, .int .u64 t226] rfl (by (try simp only [List.map_toArray, List.map_cons, List.map_nil]); first | done | rfl | (simp only [List.length_drop, List.length_take]; rfl)) ?_; (with_reducible refine (impl_Mul.calls t225 t226 t228 _ A5.out).mono ?_); rintro e w' ⟨rfl, ⟨nd, rfl⟩⟩; refine ⟨_, rfl, ?_⟩))
    (try simp only [Act.put, List.setIfInBounds_toArray, List.set_cons_zero, List.set_cons_succ])
    go_cut [30] (fun v30 wc => ∃ (kq : Nat) (x30_5 : Bool), v30 = .bool x30_5 ∧ Aside0 (laws_FnProducts.j0 kq t225 t228 x30_5 = some r) ∧ Aside0 (kq ≤ k) ∧ Aside0 (Below w.heap.size w wc))
    case first =>
      have H := HC6.out
      clear HC6
      replace H := Option.bind_eq_some_iff.mp H
      obtain ⟨t229, A80, H⟩ := H
      replace H : (if t228 = t229 then ((impl_Mul.f t226 t225).bind fun t230 => (laws_FnProducts.j0 k t225 t228 (t228 != t230))) else (laws_FnProducts.j0 k t225 t228 true)) = some r := H
      have A8 := Aside0.mk A80
      clear A80
      by_cases c9 : t228 = t229
      · rw [if_pos c9] at H
        have c9b0 : (t228 == t229) = true := beq_iff_eq.mpr c9
        have c9b1 : (t228 != t229) = false := bne_eq_false_iff_eq.mpr c9
        clear c9
        (first | rw [c9b0] | (simp only [i64_w, i32_w]; rw [c9b0]) | skip)
        replace H := Option.bind_eq_some_iff.mp H
        obtain ⟨t230, A100, H⟩ := H
        replace H : (laws_FnProducts.j0 k t225 t228 (t228 != t230)) = some r := H
        have A10 := Aside0.mk A100
        clear A100
        have H' := Aside0.mk H
        clear H
        go_wp2_with (first | ((with_reducible refine gate_callee (f := 26) rfl ?_); refine goesL_ (some 22) rfl rfl Try.func26 (by kernel_rfl) rfl #[.int .u64 t225, .int .u64 t226] rfl (by (try simp only [List.map_toArray, List.map_cons, List.map_nil]); first | done | rfl | (simp only [List.length_drop, List.length_take]; rfl)) ?_; (with_reducible refine (spec_Mul.calls k t225 t226 t229 _ A8.out).mono ?_); rintro e w11 ⟨rfl, hb⟩; refine ⟨_, rfl, ?_⟩; have n0_ := Aside0.mk (below_step (by repeat (first | (with_reducible first | exact HB.out | apply below_alloc | apply pw_below_drewN | apply below_drew1) | exact HB.out)) hb); clear HB; have HB := n0_; clear n0_; (try clear hb); (try clear hb2); (try clear hk); (try clear hi)) | (go_at_call 27; (with_reducible refine (impl_Mul.calls t226 t225 t230 _ A10.out).mono ?_); rintro e w' ⟨rfl, ⟨nd, rfl⟩⟩))
        go_meet
        case rel => exact ⟨_, ((t228 != t230)), (by first | rfl | (refine congrArg Ending.returned (congrArg (Value.int .i64) (?_ : (0 : Int) = _)); decide +kernel) | (simp; done) | (simp [*]; done)), H', ⟨by first | omega | exact Nat.le_refl _⟩, ⟨by repeat (first | (with_reducible first | exact HB.out | apply below_alloc | apply pw_below_drewN | apply below_drew1) | exact HB.out)⟩⟩
      · rw [if_neg c9] at H
        have c9b0 : (t228 == t229) = false := beq_eq_false_iff_ne.mpr c9
        have c9b1 : (t228 != t229) = true := bne_iff_ne.mpr c9
        (first | rw [c9b0] | (simp only [i64_w, i32_w]; rw [c9b0]) | skip)
        have H' := Aside0.mk H
        clear H
        go_wp2_with (first | ((with_reducible refine gate_callee (f := 26) rfl ?_); refine goesL_ (some 22) rfl rfl Try.func26 (by kernel_rfl) rfl #[.int .u64 t225, .int .u64 t226] rfl (by (try simp only [List.map_toArray, List.map_cons, List.map_nil]); first | done | rfl | (simp only [List.length_drop, List.length_take]; rfl)) ?_; (with_reducible refine (spec_Mul.calls k t225 t226 t229 _ A8.out).mono ?_); rintro e w12 ⟨rfl, hb⟩; refine ⟨_, rfl, ?_⟩; have n0_ := Aside0.mk (below_step (by repeat (first | (with_reducible first | exact HB.out | apply below_alloc | apply pw_below_drewN | apply below_drew1) | exact HB.out)) hb); clear HB; have HB := n0_; clear n0_; (try clear hb); (try clear hb2); (try clear hk); (try clear hi)))
        go_meet
        case rel => exact ⟨_, (true), (by first | rfl | (refine congrArg Ending.returned (congrArg (Value.int .i64) (?_ : (0 : Int) = _)); decide +kernel) | (simp; done) | (simp [*]; done)), H', ⟨by first | omega | exact Nat.le_refl _⟩, ⟨by repeat (first | (with_reducible first | exact HB.out | apply below_alloc | apply pw_below_drewN | apply below_drew1) | exact HB.out)⟩⟩
    case rest =>
      clear HC6
      try clear c1
      try clear c2
      try clear p2
      try clear c3
      try clear c9
      try clear c9b0
      try clear c9b1
      obtain ⟨kq, x30_5, rfl, HA, HJ5, HB⟩ := hcut
      cases kq with
      | zero => exact absurd HA.out (by simp [laws_FnProducts.j0])
      | succ kj5 =>
        have H := HA.out
        clear HA
        simp only [laws_FnProducts.j0] at H
        by_cases c13 : x30_5 = true
        · subst c13
          have H1 : (some false) = some r := by rw [if_pos rfl] at H; exact H
          clear H
          have H := H1
          clear H1
          obtain rfl := Option.some.inj H
          go_wp2
          go_ret
          exact ⟨by first | rfl | (refine congrArg Ending.returned (congrArg (Value.int .i64) (?_ : (0 : Int) = _)); decide +kernel) | (simp [errW_none, errW_some] <;> rfl) | (simp [*, errW_none, errW_some] <;> rfl), by repeat (first | (with_reducible first | exact HB.out | apply below_alloc | apply pw_below_drewN | apply below_drew1) | exact HB.out)⟩
        · replace c13 := Bool.eq_false_iff.mpr c13
          subst c13
          have H1 : ((laws_nan.f kj5 t225).bind fun t231 => (if t231 = true then ((laws_nan.f kj5 t228).bind fun t232 => (some t232)) else ((spec_PartsOfNumber.f kj5 t225).bind fun bt233 => ((laws_whole.f kj5 1).bind fun t238 => ((impl_Mul.f t225 t238).bind fun t239 => (if t239 = t225 then ((laws_whole.f kj5 1).bind fun t240 => ((impl_Div.f t225 t240).bind fun t241 => (laws_FnProducts.j1 kj5 t225 (t241 != t225) bt233.1 bt233.2.1 bt233.2.2.1 bt233.2.2.2))) else (laws_FnProducts.j1 kj5 t225 true bt233.1 bt233.2.1 bt233.2.2.1 bt233.2.2.2))))))) = some r := by rw [if_neg (show ¬ (false = true) by decide)] at H; exact H
          clear H
          have H := H1
          clear H1
          replace H := Option.bind_eq_some_iff.mp H
          obtain ⟨t231, A140, H⟩ := H
          replace H : (if t231 = true then ((laws_nan.f kj5 t228).bind fun t232 => (some t232)) else ((spec_PartsOfNumber.f kj5 t225).bind fun bt233 => ((laws_whole.f kj5 1).bind fun t238 => ((impl_Mul.f t225 t238).bind fun t239 => (if t239 = t225 then ((laws_whole.f kj5 1).bind fun t240 => ((impl_Div.f t225 t240).bind fun t241 => (laws_FnProducts.j1 kj5 t225 (t241 != t225) bt233.1 bt233.2.1 bt233.2.2.1 bt233.2.2.2))) else (laws_FnProducts.j1 kj5 t225 true bt233.1 bt233.2.1 bt233.2.2.1 bt233.2.2.2)))))) = some r := H
          have A14 := Aside0.mk A140
          clear A140
          by_cases c15 : t231 = true
          · subst c15
            have H1 : ((laws_nan.f kj5 t228).bind fun t232 => (some t232)) = some r := by rw [if_pos rfl] at H; exact H
            clear H
            have H := H1
            clear H1
            replace H := Option.bind_eq_some_iff.mp H
            obtain ⟨t232, A160, H⟩ := H
            replace H : (some t232) = some r := H
            have A16 := Aside0.mk A160
            clear A160
            obtain rfl := Option.some.inj H
            go_wp2_with (first | ((with_reducible refine gate_callee (f := 36) rfl ?_); refine goesL_ (some 32) rfl rfl Try.func36 (by kernel_rfl) rfl #[.int .u64 t225] rfl (by (try simp only [List.map_toArray, List.map_cons, List.map_nil]); first | done | rfl | (simp only [List.length_drop, List.length_take]; rfl)) ?_; (with_reducible refine (laws_nan.calls kj5 t225 true _ A14.out).mono ?_); rintro e w17 ⟨rfl, hb⟩; refine ⟨_, rfl, ?_⟩; have n0_ := Aside0.mk (below_step (by repeat (first | (with_reducible first | exact HB.out | apply below_alloc | apply pw_below_drewN | apply below_drew1) | exact HB.out)) hb); clear HB; have HB := n0_; clear n0_; (try clear hb); (try clear hb2); (try clear hk); (try clear hi)) | ((with_reducible refine gate_callee (f := 36) rfl ?_); refine goesL_ (some 34) rfl rfl Try.func36 (by kernel_rfl) rfl #[.int .u64 t228] rfl (by (try simp only [List.map_toArray, List.map_cons, List.map_nil]); first | done | rfl | (simp only [List.length_drop, List.length_take]; rfl)) ?_; (with_reducible refine (laws_nan.calls kj5 t228 t232 _ A16.out).mono ?_); rintro e w18 ⟨rfl, hb⟩; refine ⟨_, rfl, ?_⟩; have n0_ := Aside0.mk (below_step (by repeat (first | (with_reducible first | exact HB.out | apply below_alloc | apply pw_below_drewN | apply below_drew1) | exact HB.out)) hb); clear HB; have HB := n0_; clear n0_; (try clear hb); (try clear hb2); (try clear hk); (try clear hi)))
            go_ret
            exact ⟨by first | rfl | (refine congrArg Ending.returned (congrArg (Value.int .i64) (?_ : (0 : Int) = _)); decide +kernel) | (simp [errW_none, errW_some] <;> rfl) | (simp [*, errW_none, errW_some] <;> rfl), by repeat (first | (with_reducible first | exact HB.out | apply below_alloc | apply pw_below_drewN | apply below_drew1) | exact HB.out)⟩
          · replace c15 := Bool.eq_false_iff.mpr c15
            subst c15
            have H1 : ((spec_PartsOfNumber.f kj5 t225).bind fun bt233 => ((laws_whole.f kj5 1).bind fun t238 => ((impl_Mul.f t225 t238).bind fun t239 => (if t239 = t225 then ((laws_whole.f kj5 1).bind fun t240 => ((impl_Div.f t225 t240).bind fun t241 => (laws_FnProducts.j1 kj5 t225 (t241 != t225) bt233.1 bt233.2.1 bt233.2.2.1 bt233.2.2.2))) else (laws_FnProducts.j1 kj5 t225 true bt233.1 bt233.2.1 bt233.2.2.1 bt233.2.2.2))))) = some r := by rw [if_neg (show ¬ (false = true) by decide)] at H; exact H
            clear H
            have H := H1
            clear H1
            replace H := Option.bind_eq_some_iff.mp H
            obtain ⟨⟨t233, t234, t235, t236⟩, A190, H⟩ := H
            replace H : ((laws_whole.f kj5 1).bind fun t238 => ((impl_Mul.f t225 t238).bind fun t239 => (if t239 = t225 then ((laws_whole.f kj5 1).bind fun t240 => ((impl_Div.f t225 t240).bind fun t241 => (laws_FnProducts.j1 kj5 t225 (t241 != t225) t233 t234 t235 t236))) else (laws_FnProducts.j1 kj5 t225 true t233 t234 t235 t236)))) = some r := H
            have A19 := Aside0.mk A190
            clear A190
            have HC20 := Aside0.mk H
            clear H
            go_upto_region 10 with (first | ((with_reducible refine gate_callee (f := 36) rfl ?_); refine goesL_ (some 32) rfl rfl Try.func36 (by kernel_rfl) rfl #[.int .u64 t225] rfl (by (try simp only [List.map_toArray, List.map_cons, List.map_nil]); first | done | rfl | (simp only [List.length_drop, List.length_take]; rfl)) ?_; (with_reducible refine (laws_nan.calls kj5 t225 false _ A14.out).mono ?_); rintro e w21 ⟨rfl, hb⟩; refine ⟨_, rfl, ?_⟩; have n0_ := Aside0.mk (below_step (by repeat (first | (with_reducible first | exact HB.out | apply below_alloc | apply pw_below_drewN | apply below_drew1) | exact HB.out)) hb); clear HB; have HB := n0_; clear n0_; (try clear hb); (try clear hb2); (try clear hk); (try clear hi)) | ((with_reducible refine gate_callee (f := 38) rfl ?_); refine goesL_ (some 36) rfl rfl Try.func38 (by kernel_rfl) rfl #[.int .u64 t225] rfl (by (try simp only [List.map_toArray, List.map_cons, List.map_nil]); first | done | rfl | (simp only [List.length_drop, List.length_take]; rfl)) ?_; (with_reducible refine (spec_PartsOfNumber.calls kj5 t225 t233 t234 t235 t236 _ A19.out).mono ?_); rintro e w22 ⟨rfl, hb⟩; refine ⟨_, rfl, ?_⟩; have n0_ := Aside0.mk (below_step (by repeat (first | (with_reducible first | exact HB.out | apply below_alloc | apply pw_below_drewN | apply below_drew1) | exact HB.out)) hb); clear HB; have HB := n0_; clear n0_; (try clear hb); (try clear hb2); (try clear hk); (try clear hi)) | ((with_reducible refine gate_dst (N := 7) rfl ?_); refine box_event ?hg (N := 7) ?hd (cs := #[.int .i64 0, .bool false, .int .u64 0, .int .i64 0]) (t := 33) ?hr ?_; (case hd => rfl); (case hg => rfl); (case hr => first | (go_simp; done) | (go_simp; rfl)); intro gb237 hg w23 hbox hb; have n0_ := Aside0.mk (below_step (by repeat (first | (with_reducible first | exact HB.out | apply below_alloc | apply pw_below_drewN | apply below_drew1) | exact HB.out)) hb); have n1_ := Aside0.mk (hbox); have n2_ := Aside0.mk ((by rw [hg]; exact (below_size (by repeat (first | (with_reducible first | exact HB.out | apply below_alloc | apply pw_below_drewN | apply below_drew1) | exact HB.out))) : w.heap.size ≤ gb237)); have n3_ := Aside0.mk ((by rw [hg]; exact (below_size (by repeat (first | (with_reducible first | exact HB.out | apply below_alloc | apply pw_below_drewN | apply below_drew1) | exact HB.out))) : w.heap.size ≤ gb237)); clear HB; have HB := n0_; have BK237 := n1_; have GW237 := n2_; have GE237 := n3_; clear n0_ n1_ n2_ n3_; clear hb hbox hg; have hcz24_0 : w23.cell? ⟨gb237, 0, none⟩ = some (.int .i64 0) := (blk_cell BK237.out 0).trans rfl; have hcz24_1 : w23.cell? ⟨gb237, 1, none⟩ = some (.bool false) := (blk_cell BK237.out 1).trans rfl; have hcz24_2 : w23.cell? ⟨gb237, 2, none⟩ = some (.int .u64 0) := (blk_cell BK237.out 2).trans rfl; have hcz24_3 : w23.cell? ⟨gb237, 3, none⟩ = some (.int .i64 0) := (blk_cell BK237.out 3).trans rfl; have hfz24_0 := blk_frozen BK237.out 0; have hfz24_1 := blk_frozen BK237.out 1; have hfz24_2 := blk_frozen BK237.out 2; have hfz24_3 := blk_frozen BK237.out 3))
            (try simp only [Act.put, List.setIfInBounds_toArray, List.set_cons_zero, List.set_cons_succ])
            go_cut [48] (fun v48 wc => ∃ (kq : Nat) (x48_19 : Bool), v48 = .bool x48_19 ∧ Aside0 (laws_FnProducts.j1 kq t225 x48_19 t233 t234 t235 t236 = some r) ∧ Aside0 (kq ≤ kj5) ∧ Aside0 (wc.heap[gb237]? = some (.cells #[.int .i64 t233, .bool t234, .int .u64 t235, .int .i64 t236] 33 (0, 0))) ∧ Aside0 (Below w.heap.size w wc))
            case first =>
              have H := HC20.out
              clear HC20
              replace H := Option.bind_eq_some_iff.mp H
              obtain ⟨t238, A250, H⟩ := H
              replace H : ((impl_Mul.f t225 t238).bind fun t239 => (if t239 = t225 then ((laws_whole.f kj5 1).bind fun t240 => ((impl_Div.f t225 t240).bind fun t241 => (laws_FnProducts.j1 kj5 t225 (t241 != t225) t233 t234 t235 t236))) else (laws_FnProducts.j1 kj5 t225 true t233 t234 t235 t236))) = some r := H
              have A25 := Aside0.mk A250
              clear A250
              replace H := Option.bind_eq_some_iff.mp H
              obtain ⟨t239, A260, H⟩ := H
              replace H : (if t239 = t225 then ((laws_whole.f kj5 1).bind fun t240 => ((impl_Div.f t225 t240).bind fun t241 => (laws_FnProducts.j1 kj5 t225 (t241 != t225) t233 t234 t235 t236))) else (laws_FnProducts.j1 kj5 t225 true t233 t234 t235 t236)) = some r := H
              have A26 := Aside0.mk A260
              clear A260
              by_cases c27 : t239 = t225
              · rw [if_pos c27] at H
                have c27b0 : (t239 == t225) = true := beq_iff_eq.mpr c27
                have c27b1 : (t239 != t225) = false := bne_eq_false_iff_eq.mpr c27
                clear c27
                (first | rw [c27b0] | (simp only [i64_w, i32_w]; rw [c27b0]) | skip)
                replace H := Option.bind_eq_some_iff.mp H
                obtain ⟨t240, A280, H⟩ := H
                replace H : ((impl_Div.f t225 t240).bind fun t241 => (laws_FnProducts.j1 kj5 t225 (t241 != t225) t233 t234 t235 t236)) = some r := H
                have A28 := Aside0.mk A280
                clear A280
                replace H := Option.bind_eq_some_iff.mp H
                obtain ⟨t241, A290, H⟩ := H
                replace H : (laws_FnProducts.j1 kj5 t225 (t241 != t225) t233 t234 t235 t236) = some r := H
                have A29 := Aside0.mk A290
                clear A290
                have H' := Aside0.mk H
                clear H
                go_wp2_with (first | ((with_reducible refine gate_callee (f := 29) rfl ?_); refine goesL_ (some 38) rfl rfl Try.func29 (by kernel_rfl) rfl #[.int .i64 1] rfl (by (try simp only [List.map_toArray, List.map_cons, List.map_nil]); first | done | rfl | (simp only [List.length_drop, List.length_take]; rfl)) ?_; (with_reducible refine (laws_whole.calls kj5 1 t238 _ A25.out).mono ?_); rintro e w' ⟨rfl, ⟨nd, rfl⟩⟩; refine ⟨_, rfl, ?_⟩) | ((with_reducible refine gate_callee (f := 27) rfl ?_); refine goesL_ (some 39) rfl rfl Try.func27 (by kernel_rfl) rfl #[.int .u64 t225, .int .u64 t238] rfl (by (try simp only [List.map_toArray, List.map_cons, List.map_nil]); first | done | rfl | (simp only [List.length_drop, List.length_take]; rfl)) ?_; (with_reducible refine (impl_Mul.calls t225 t238 t239 _ A26.out).mono ?_); rintro e w' ⟨rfl, ⟨nd, rfl⟩⟩; refine ⟨_, rfl, ?_⟩) | (go_at_call 29; (with_reducible refine (laws_whole.calls kj5 1 t240 _ A28.out).mono ?_); rintro e w' ⟨rfl, ⟨nd, rfl⟩⟩) | (go_at_call 33; (with_reducible refine (impl_Div.calls t225 t240 t241 _ A29.out).mono ?_); rintro e w' ⟨rfl, ⟨nd, rfl⟩⟩))
                go_meet
                case rel => exact ⟨_, ((t241 != t225)), (by first | rfl | (refine congrArg Ending.returned (congrArg (Value.int .i64) (?_ : (0 : Int) = _)); decide +kernel) | (simp; done) | (simp [*]; done)), H', ⟨by have := HJ5.out; first | omega | exact Nat.le_refl _⟩, ⟨by (with_reducible repeat (first | refine blk_drewN ?_ _ | refine blk_drew ?_ | refine blk_alloc ?_ _)); refine blk_put (cs := #[.int .i64 t233, .bool t234, .int .u64 t235, .int .i64 0]) ?_ 3 _ rfl; (with_reducible repeat (first | refine blk_drewN ?_ _ | refine blk_drew ?_ | refine blk_alloc ?_ _)); refine blk_put (cs := #[.int .i64 t233, .bool t234, .int .u64 0, .int .i64 0]) ?_ 2 _ rfl; (with_reducible repeat (first | refine blk_drewN ?_ _ | refine blk_drew ?_ | refine blk_alloc ?_ _)); refine blk_put (cs := #[.int .i64 t233, .bool false, .int .u64 0, .int .i64 0]) ?_ 1 _ rfl; (with_reducible repeat (first | refine blk_drewN ?_ _ | refine blk_drew ?_ | refine blk_alloc ?_ _)); refine blk_put (cs := #[.int .i64 0, .bool false, .int .u64 0, .int .i64 0]) ?_ 0 _ rfl; (with_reducible repeat (first | refine blk_drewN ?_ _ | refine blk_drew ?_ | refine blk_alloc ?_ _)); exact BK237.out⟩, ⟨by repeat (first | (with_reducible first | exact HB.out | apply below_alloc | apply pw_below_drewN | apply below_drew1 | refine below_set ?_ GE237.out) | exact HB.out)⟩⟩
              · rw [if_neg c27] at H
                have c27b0 : (t239 == t225) = false := beq_eq_false_iff_ne.mpr c27
                have c27b1 : (t239 != t225) = true := bne_iff_ne.mpr c27
                (first | rw [c27b0] | (simp only [i64_w, i32_w]; rw [c27b0]) | skip)
                have H' := Aside0.mk H
                clear H
                go_wp2_with (first | ((with_reducible refine gate_callee (f := 29) rfl ?_); refine goesL_ (some 38) rfl rfl Try.func29 (by kernel_rfl) rfl #[.int .i64 1] rfl (by (try simp only [List.map_toArray, List.map_cons, List.map_nil]); first | done | rfl | (simp only [List.length_drop, List.length_take]; rfl)) ?_; (with_reducible refine (laws_whole.calls kj5 1 t238 _ A25.out).mono ?_); rintro e w' ⟨rfl, ⟨nd, rfl⟩⟩; refine ⟨_, rfl, ?_⟩) | ((with_reducible refine gate_callee (f := 27) rfl ?_); refine goesL_ (some 39) rfl rfl Try.func27 (by kernel_rfl) rfl #[.int .u64 t225, .int .u64 t238] rfl (by (try simp only [List.map_toArray, List.map_cons, List.map_nil]); first | done | rfl | (simp only [List.length_drop, List.length_take]; rfl)) ?_; (with_reducible refine (impl_Mul.calls t225 t238 t239 _ A26.out).mono ?_); rintro e w' ⟨rfl, ⟨nd, rfl⟩⟩; refine ⟨_, rfl, ?_⟩))
                go_meet
                case rel => exact ⟨_, (true), (by first | rfl | (refine congrArg Ending.returned (congrArg (Value.int .i64) (?_ : (0 : Int) = _)); decide +kernel) | (simp; done) | (simp [*]; done)), H', ⟨by have := HJ5.out; first | omega | exact Nat.le_refl _⟩, ⟨by (with_reducible repeat (first | refine blk_drewN ?_ _ | refine blk_drew ?_ | refine blk_alloc ?_ _)); refine blk_put (cs := #[.int .i64 t233, .bool t234, .int .u64 t235, .int .i64 0]) ?_ 3 _ rfl; (with_reducible repeat (first | refine blk_drewN ?_ _ | refine blk_drew ?_ | refine blk_alloc ?_ _)); refine blk_put (cs := #[.int .i64 t233, .bool t234, .int .u64 0, .int .i64 0]) ?_ 2 _ rfl; (with_reducible repeat (first | refine blk_drewN ?_ _ | refine blk_drew ?_ | refine blk_alloc ?_ _)); refine blk_put (cs := #[.int .i64 t233, .bool false, .int .u64 0, .int .i64 0]) ?_ 1 _ rfl; (with_reducible repeat (first | refine blk_drewN ?_ _ | refine blk_drew ?_ | refine blk_alloc ?_ _)); refine blk_put (cs := #[.int .i64 0, .bool false, .int .u64 0, .int .i64 0]) ?_ 0 _ rfl; (with_reducible repeat (first | refine blk_drewN ?_ _ | refine blk_drew ?_ | refine blk_alloc ?_ _)); exact BK237.out⟩, ⟨by repeat (first | (with_reducible first | exact HB.out | apply below_alloc | apply pw_below_drewN | apply below_drew1 | refine below_set ?_ GE237.out) | exact HB.out)⟩⟩
            case rest =>
              clear HC20
              try clear c1
              try clear c2
              try clear p2
              try clear c3
              try clear c9
              try clear c9b0
              try clear c9b1
              try clear c13
              try clear c15
              try clear c21
              try clear c26
              try clear c27
              try clear c27b0
              try clear c27b1
              try clear c29
              try clear hcz24_0
              try clear hcz24_1
              try clear hcz24_2
              try clear hcz24_3
              try clear hfz24_0
              try clear hfz24_1
              try clear hfz24_2
              try clear hfz24_3
              try clear p2
              obtain ⟨kq, x48_19, rfl, HA, HJ19, BK237, HB⟩ := hcut
              cases kq with
              | zero => exact absurd HA.out (by simp [laws_FnProducts.j1])
              | succ kj19 =>
                have H := HA.out
                clear HA
                simp only [laws_FnProducts.j1] at H
                by_cases c30 : x48_19 = true
                · subst c30
                  have H1 : (some false) = some r := by rw [if_pos rfl] at H; exact H
                  clear H
                  have H := H1
                  clear H1
                  obtain rfl := Option.some.inj H
                  go_wp2
                  go_ret
                  exact ⟨by first | rfl | (refine congrArg Ending.returned (congrArg (Value.int .i64) (?_ : (0 : Int) = _)); decide +kernel) | (simp [errW_none, errW_some] <;> rfl) | (simp [*, errW_none, errW_some] <;> rfl), by repeat (first | (with_reducible first | exact HB.out | apply below_alloc | apply pw_below_drewN | apply below_drew1 | refine below_set ?_ GE237.out) | exact HB.out)⟩
                · replace c30 := Bool.eq_false_iff.mpr c30
                  subst c30
                  have H1 : (if t233 = 4 then ((impl_Div.f t225 t225).bind fun t242 => ((laws_whole.f kj19 1).bind fun t243 => (if t242 = t243 then ((impl_Negate.f t225).bind fun t244 => ((impl_Div.f t244 t225).bind fun t245 => ((laws_whole.f kj19 (-1)).bind fun t246 => (some (t245 == t246))))) else (some false)))) else (some true)) = some r := by rw [if_neg (show ¬ (false = true) by decide)] at H; exact H
                  clear H
                  have H := H1
                  clear H1
                  by_cases c31 : t233 = 4
                  · rw [if_pos c31] at H
                    have c31b0 : (t233 == 4) = true := beq_iff_eq.mpr c31
                    have c31b1 : (t233 != 4) = false := bne_eq_false_iff_eq.mpr c31
                    clear c31
                    replace H := Option.bind_eq_some_iff.mp H
                    obtain ⟨t242, A320, H⟩ := H
                    replace H : ((laws_whole.f kj19 1).bind fun t243 => (if t242 = t243 then ((impl_Negate.f t225).bind fun t244 => ((impl_Div.f t244 t225).bind fun t245 => ((laws_whole.f kj19 (-1)).bind fun t246 => (some (t245 == t246))))) else (some false))) = some r := H
                    have A32 := Aside0.mk A320
                    clear A320
                    replace H := Option.bind_eq_some_iff.mp H
                    obtain ⟨t243, A330, H⟩ := H
                    replace H : (if t242 = t243 then ((impl_Negate.f t225).bind fun t244 => ((impl_Div.f t244 t225).bind fun t245 => ((laws_whole.f kj19 (-1)).bind fun t246 => (some (t245 == t246))))) else (some false)) = some r := H
                    have A33 := Aside0.mk A330
                    clear A330
                    by_cases c34 : t242 = t243
                    · rw [if_pos c34] at H
                      have c34b0 : (t242 == t243) = true := beq_iff_eq.mpr c34
                      have c34b1 : (t242 != t243) = false := bne_eq_false_iff_eq.mpr c34
                      clear c34
                      replace H := Option.bind_eq_some_iff.mp H
                      obtain ⟨t244, A350, H⟩ := H
                      replace H : ((impl_Div.f t244 t225).bind fun t245 => ((laws_whole.f kj19 (-1)).bind fun t246 => (some (t245 == t246)))) = some r := H
                      have A35 := Aside0.mk A350
                      clear A350
                      replace H := Option.bind_eq_some_iff.mp H
                      obtain ⟨t245, A360, H⟩ := H
                      replace H : ((laws_whole.f kj19 (-1)).bind fun t246 => (some (t245 == t246))) = some r := H
                      have A36 := Aside0.mk A360
                      clear A360
                      replace H := Option.bind_eq_some_iff.mp H
                      obtain ⟨t246, A370, H⟩ := H
                      replace H : (some (t245 == t246)) = some r := H
                      have A37 := Aside0.mk A370
                      clear A370
                      obtain rfl := Option.some.inj H
                      have hcz38_0 : wc.cell? ⟨gb237, 0, none⟩ = some (.int .i64 t233) := (blk_cell BK237.out 0).trans rfl
                      have hcz38_1 : wc.cell? ⟨gb237, 1, none⟩ = some (.bool t234) := (blk_cell BK237.out 1).trans rfl
                      have hcz38_2 : wc.cell? ⟨gb237, 2, none⟩ = some (.int .u64 t235) := (blk_cell BK237.out 2).trans rfl
                      have hcz38_3 : wc.cell? ⟨gb237, 3, none⟩ = some (.int .i64 t236) := (blk_cell BK237.out 3).trans rfl
                      have hfz38_0 := blk_frozen BK237.out 0
                      have hfz38_1 := blk_frozen BK237.out 1
                      have hfz38_2 := blk_frozen BK237.out 2
                      have hfz38_3 := blk_frozen BK237.out 3
                      go_wp2_with (first | (go_at_call 33; (with_reducible refine (impl_Div.calls t225 t225 t242 _ A32.out).mono ?_); rintro e w' ⟨rfl, ⟨nd, rfl⟩⟩) | (go_at_call 29; (with_reducible refine (laws_whole.calls kj19 1 t243 _ A33.out).mono ?_); rintro e w' ⟨rfl, ⟨nd, rfl⟩⟩) | (go_at_call 39; (with_reducible refine (impl_Negate.calls t225 t244 _ A35.out).mono ?_); rintro e w' ⟨rfl, ⟨nd, rfl⟩⟩) | (go_at_call 33; (with_reducible refine (impl_Div.calls t244 t225 t245 _ A36.out).mono ?_); rintro e w' ⟨rfl, ⟨nd, rfl⟩⟩) | (go_at_call 29; (with_reducible refine (laws_whole.calls kj19 (-1) t246 _ A37.out).mono ?_); rintro e w' ⟨rfl, ⟨nd, rfl⟩⟩))
                      go_ret
                      exact ⟨by first | rfl | (refine congrArg Ending.returned (congrArg (Value.int .i64) (?_ : (0 : Int) = _)); decide +kernel) | (simp [errW_none, errW_some] <;> rfl) | (simp [*, errW_none, errW_some] <;> rfl), by repeat (first | (with_reducible first | exact HB.out | apply below_alloc | apply pw_below_drewN | apply below_drew1 | refine below_set ?_ GE237.out) | exact HB.out)⟩
                    · rw [if_neg c34] at H
                      have c34b0 : (t242 == t243) = false := beq_eq_false_iff_ne.mpr c34
                      have c34b1 : (t242 != t243) = true := bne_iff_ne.mpr c34
                      obtain rfl := Option.some.inj H
                      have hcz39_0 : wc.cell? ⟨gb237, 0, none⟩ = some (.int .i64 t233) := (blk_cell BK237.out 0).trans rfl
                      have hcz39_1 : wc.cell? ⟨gb237, 1, none⟩ = some (.bool t234) := (blk_cell BK237.out 1).trans rfl
                      have hcz39_2 : wc.cell? ⟨gb237, 2, none⟩ = some (.int .u64 t235) := (blk_cell BK237.out 2).trans rfl
                      have hcz39_3 : wc.cell? ⟨gb237, 3, none⟩ = some (.int .i64 t236) := (blk_cell BK237.out 3).trans rfl
                      have hfz39_0 := blk_frozen BK237.out 0
                      have hfz39_1 := blk_frozen BK237.out 1
                      have hfz39_2 := blk_frozen BK237.out 2
                      have hfz39_3 := blk_frozen BK237.out 3
                      go_wp2_with (first | (go_at_call 33; (with_reducible refine (impl_Div.calls t225 t225 t242 _ A32.out).mono ?_); rintro e w' ⟨rfl, ⟨nd, rfl⟩⟩) | (go_at_call 29; (with_reducible refine (laws_whole.calls kj19 1 t243 _ A33.out).mono ?_); rintro e w' ⟨rfl, ⟨nd, rfl⟩⟩))
                      go_ret
                      exact ⟨by first | rfl | (refine congrArg Ending.returned (congrArg (Value.int .i64) (?_ : (0 : Int) = _)); decide +kernel) | (simp [errW_none, errW_some] <;> rfl) | (simp [*, errW_none, errW_some] <;> rfl), by repeat (first | (with_reducible first | exact HB.out | apply below_alloc | apply pw_below_drewN | apply below_drew1 | refine below_set ?_ GE237.out) | exact HB.out)⟩
                  · rw [if_neg c31] at H
                    have c31b0 : (t233 == 4) = false := beq_eq_false_iff_ne.mpr c31
                    have c31b1 : (t233 != 4) = true := bne_iff_ne.mpr c31
                    obtain rfl := Option.some.inj H
                    have hcz40_0 : wc.cell? ⟨gb237, 0, none⟩ = some (.int .i64 t233) := (blk_cell BK237.out 0).trans rfl
                    have hcz40_1 : wc.cell? ⟨gb237, 1, none⟩ = some (.bool t234) := (blk_cell BK237.out 1).trans rfl
                    have hcz40_2 : wc.cell? ⟨gb237, 2, none⟩ = some (.int .u64 t235) := (blk_cell BK237.out 2).trans rfl
                    have hcz40_3 : wc.cell? ⟨gb237, 3, none⟩ = some (.int .i64 t236) := (blk_cell BK237.out 3).trans rfl
                    have hfz40_0 := blk_frozen BK237.out 0
                    have hfz40_1 := blk_frozen BK237.out 1
                    have hfz40_2 := blk_frozen BK237.out 2
                    have hfz40_3 := blk_frozen BK237.out 3
                    go_wp2
                    go_ret
                    exact ⟨by first | rfl | (refine congrArg Ending.returned (congrArg (Value.int .i64) (?_ : (0 : Int) = _)); decide +kernel) | (simp [errW_none, errW_some] <;> rfl) | (simp [*, errW_none, errW_some] <;> rfl), by repeat (first | (with_reducible first | exact HB.out | apply below_alloc | apply pw_below_drewN | apply below_drew1 | refine below_set ?_ GE237.out) | exact HB.out)⟩

/-- THE ONE PURE STATEMENT of laws_FnProducts: yours. -/
def laws_FnProducts.Pure : Prop := ∀ (l0 : List Int), l0.length ≤ maxLen → l0.length * 1 ≤ 140737488351232 → (∀ x ∈ l0, (Lit.int .u8 x).wf = true) → ∃ k, laws_FnProducts.f k l0 = some true
theorem laws_FnProducts.walk (P : laws_FnProducts.Pure) (a0 : Option Addr) (len0 cap0 : Nat) (z0 : List Int) (w : World) (w0 : (a0 = none ∧ len0 = 0 ∧ cap0 = 0 ∧ z0 = []) ∨ ∃ x, a0 = some x ∧ len0 ≤ cap0 ∧ cap0 ≤ maxLen ∧ z0.length = cap0 ∧ (∀ i, i < z0.length → w.cell? (x.add i) = some (.int .u8 (z0.getD i 0))) ∧ ∀ n ∈ z0, (Lit.int .u8 n).wf = true) (y0 : len0 * 1 ≤ 140737488351232) :
    Calls Try.prog 13 #[.slice a0 len0 cap0] w fun e w' => e = .returned (.bool true) ∧ Below w.heap.size w w' := by
  obtain ⟨l0, rfl, hr0, hm0, hw0, hc0⟩ := ReadsInt.ofRowC w0
  obtain ⟨k, h⟩ := P l0 hm0 y0 hw0
  refine (laws_FnProducts.calls k _ _ l0 true w (Kd.C_of_reads (d := (0 : Int)) (h1 := fun _ => rfl) hr0) hc0 h).mono ?_
  rintro e w' ⟨rfl, hd⟩
  exact ⟨rfl, hd⟩

end Go.Proofs.Ytkkohiflkhicpaa.MFnProducts
