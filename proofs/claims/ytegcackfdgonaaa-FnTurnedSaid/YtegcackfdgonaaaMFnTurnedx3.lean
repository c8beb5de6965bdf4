-- by this session's own program mp.py over the kit's printer
import Derived.Test.YtegcackfdgonaaaMFnTurnedx0
import Derived.Test.YtegcackfdgonaaaMFnTurnedx1
import Derived.Test.YtegcackfdgonaaaMFnTurnedx2
import Derived.Test.YtegcackfdgonaaaGConv
namespace Go.Proofs.Ytegcackfdgonaaa.MFnTurned
open Go.RowKit Go.Proofs.YtegcackfdgonaaaW.PrintWords Go.Proofs.YtegcackfdgonaaaW.PrintLast Go.Proofs.YtegcackfdgonaaaW.PrintMore
attribute [local go_sem] max2_int min2_int max_two min_two max_three min_three max_four min_four   -- for this text's walks alone
set_option linter.unusedVariables false
set_option linter.unusedSimpArgs false
/-- The law behind the conversion: a byte is turned. -/
def laws_FnTurned.tail (k : Nat) (s t : ByteArray) (p : List Int) : Option Bool :=
  if 1 < p.length ∧ 0 < t.size ∧ t.size ≤ 1000000 ∧ 0 ≤ rd p 0 ∧ rd p 0 < 1000000 ∧ 0 ≤ rd p 1 ∧ rd p 1 < 1000000 ∧ s.size ≤ 1000000 then
    (impl_Unsealed.f k (Go.Proofs.Ytegcackfdgonaaa.G.turnT t (Int.tmod (rd p 0) (t.size : Int)).toNat (Go.bits .xor .u8 (((t.data.toList.getD (Int.tmod (rd p 0) (t.size : Int)).toNat 0).toNat : Nat) : Int) (1 + Int.tmod (rd p 1) 255)))).bind fun bt => (if bt.2 = true then (some false) else ((impl_SumOf.f k s).bind fun t1 => ((impl_SumMore.f k t1 (⟨#[120]⟩ : ByteArray)).bind fun t2 => ((impl_SumOf.f k (s ++ (⟨#[120]⟩ : ByteArray))).bind fun t3 => (some (t2 == t3))))))
  else none
theorem laws_FnTurned.tail_mono : ∀ k s t p, LeO (laws_FnTurned.tail k s t p) (laws_FnTurned.tail (k + 1) s t p) := by
  intro k s t p
  unfold laws_FnTurned.tail
  repeat' first
      | (with_reducible exact impl_Unsealed.mono _ _)
      | (with_reducible exact impl_SumOf.mono _ _)
      | (with_reducible exact impl_SumMore.mono _ _ _)
      | (with_reducible exact LeO.refl _)
      | (with_reducible exact LeO.none _)
      | (with_reducible refine LeO.ite ?_ ?_)
      | (with_reducible refine LeO.bind ?_ (fun _ => ?_))
/-! ### laws_FnTurned: function 3 -/
def laws_FnTurned.j0 : Nat → ByteArray → ByteArray → List Int → Bool → Option (Bool)
  | 0, _, _, _, _ => none
  | k + 1, s, t, p, x47 => if x47 = true then (some false) else (laws_FnTurned.tail k s t p)
def laws_FnTurned.f (k : Nat) (l0 : List Int) : Option (Bool) := (laws_big.f l0).bind fun t164 => (if t164 = true then (some true) else ((spec_DrawSumOf.f k l0).bind fun t165 => ((spec_DrawPlaces.f k l0).bind fun t166 => ((impl_Sealed.f k t165).bind fun bt169 => ((impl_Unsealed.f k bt169.1).bind fun bt171 => (if bt169.2 = true then (if bt171.2 = true then (if bt171.1.toList = t165.toList then (laws_FnTurned.j0 k t165 bt169.1 t166 ((bt169.1.size : Int) != (wrap64 ((t165.size : Int) + 4)))) else (laws_FnTurned.j0 k t165 bt169.1 t166 true)) else (laws_FnTurned.j0 k t165 bt169.1 t166 true)) else (laws_FnTurned.j0 k t165 bt169.1 t166 true)))))))
theorem laws_FnTurned.mono_l : ∀ k, (∀ s t p y0, LeO (laws_FnTurned.j0 k s t p y0) (laws_FnTurned.j0 (k + 1) s t p y0))
  | 0 => fun _ _ _ _ r h => by simp [laws_FnTurned.j0] at h
  | k + 1 => by
    have ih0 := laws_FnTurned.mono_l k
    · intro s t p y0
      unfold laws_FnTurned.j0
      repeat' first
      | (with_reducible exact ih0 _ _ _ _)
      | (with_reducible exact laws_FnTurned.tail_mono _ _ _ _)
      | (with_reducible exact impl_Sealed.mono _ _)
      | (with_reducible exact impl_Unsealed.mono _ _)
      | (with_reducible exact spec_DrawPlaces.mono _ _)
      | (with_reducible exact spec_DrawSumOf.mono _ _)
      | (with_reducible exact LeO.refl _)
      | (with_reducible exact LeO.none _)
      | (with_reducible refine LeO.ite ?_ ?_)
      | (with_reducible refine LeO.bind ?_ (fun _ => ?_))
      | exact ih0 _ _ _ _
      | exact laws_FnTurned.tail_mono _ _ _ _
      | exact impl_Sealed.mono _ _
      | exact impl_Unsealed.mono _ _
      | exact spec_DrawPlaces.mono _ _
      | exact spec_DrawSumOf.mono _ _
      | exact LeO.none _
      | refine LeO.ite ?_ ?_
      | refine LeO.bind ?_ (fun _ => ?_)
theorem laws_FnTurned.mono : ∀ a0 k, LeO (laws_FnTurned.f k a0) (laws_FnTurned.f (k + 1) a0) := by
  intro a0 k
  have ih0 := laws_FnTurned.mono_l k
  unfold laws_FnTurned.f
  repeat' first
      | (with_reducible exact ih0 _ _ _ _)
      | (with_reducible exact laws_FnTurned.tail_mono _ _ _ _)
      | (with_reducible exact impl_Sealed.mono _ _)
      | (with_reducible exact impl_Unsealed.mono _ _)
      | (with_reducible exact spec_DrawPlaces.mono _ _)
      | (with_reducible exact spec_DrawSumOf.mono _ _)
      | (with_reducible exact LeO.refl _)
      | (with_reducible exact LeO.none _)
      | (with_reducible refine LeO.ite ?_ ?_)
      | (with_reducible refine LeO.bind ?_ (fun _ => ?_))
      | exact ih0 _ _ _ _
      | exact laws_FnTurned.tail_mono _ _ _ _
      | exact impl_Sealed.mono _ _
      | exact impl_Unsealed.mono _ _
      | exact spec_DrawPlaces.mono _ _
      | exact spec_DrawSumOf.mono _ _
      | exact LeO.none _
      | refine LeO.ite ?_ ?_
      | refine LeO.bind ?_ (fun _ => ?_)
set_option maxHeartbeats 8000000 in
set_option maxRecDepth 100000 in
theorem laws_FnTurned.calls (k : Nat) (A0 : Option Addr) (c0 : Nat) (l0 : List Int) (r : Bool) (w : World) (hr0 : Kd.C (Kd.int .u8) w A0 l0.length l0) (hc0 : l0.length ≤ c0) (h : laws_FnTurned.f k l0 = some r) :
    Calls Try.prog 3 #[.slice A0 l0.length c0] w fun e w' => e = .returned (.bool r) ∧ Below w.heap.size w w' := by
  have HR0 := Aside0.mk hr0
  have HC0 := Aside0.mk hc0
  clear hr0 hc0
  have HB := Aside0.mk (Below.refl w.heap.size w)
  have H : ((laws_big.f l0).bind fun t164 => (if t164 = true then (some true) else ((spec_DrawSumOf.f k l0).bind fun t165 => ((spec_DrawPlaces.f k l0).bind fun t166 => ((impl_Sealed.f k t165).bind fun bt169 => ((impl_Unsealed.f k bt169.1).bind fun bt171 => (if bt169.2 = true then (if bt171.2 = true then (if bt171.1.toList = t165.toList then (laws_FnTurned.j0 k t165 bt169.1 t166 ((bt169.1.size : Int) != (wrap64 ((t165.size : Int) + 4)))) else (laws_FnTurned.j0 k t165 bt169.1 t166 true)) else (laws_FnTurned.j0 k t165 bt169.1 t166 true)) else (laws_FnTurned.j0 k t165 bt169.1 t166 true)))))))) = some r := h
  clear h
  replace H := Option.bind_eq_some_iff.mp H
  obtain ⟨t164, A20, H⟩ := H
  replace H : (if t164 = true then (some true) else ((spec_DrawSumOf.f k l0).bind fun t165 => ((spec_DrawPlaces.f k l0).bind fun t166 => ((impl_Sealed.f k t165).bind fun bt169 => ((impl_Unsealed.f k bt169.1).bind fun bt171 => (if bt169.2 = true then (if bt171.2 = true then (if bt171.1.toList = t165.toList then (laws_FnTurned.j0 k t165 bt169.1 t166 ((bt169.1.size : Int) != (wrap64 ((t165.size : Int) + 4)))) else (laws_FnTurned.j0 k t165 bt169.1 t166 true)) else (laws_FnTurned.j0 k t165 bt169.1 t166 true)) else (laws_FnTurned.j0 k t165 bt169.1 t166 true))))))) = some r := H
  have A2 := Aside0.mk A20
  clear A20
  by_cases c3 : t164 = true
  · subst c3
    have H1 : (some true) = some r := by rw [if_pos rfl] at H; exact H
    clear H
    have H := H1
    clear H1
    obtain rfl := Option.some.inj H
    go_enter Try.func3, Try.ntmps3
    go_wp2_with (first | ((with_reducible refine gate_callee (f := 4) rfl ?_); refine goesL_ (some 14) rfl rfl Try.func4 (by kernel_rfl) rfl #[.slice A0 l0.length c0] rfl (by (try simp only [List.map_toArray, List.map_cons, List.map_nil]); first | done | rfl | (simp only [List.length_drop, List.length_take]; rfl)) ?_; (with_reducible refine (laws_big.calls _ _ l0 true _ ?side1 ?side2 A2.out).mono ?_); (case side1 => repeat (first | exact HR0.out | (with_reducible refine Kd.C_alloc ?_ _) | (with_reducible refine Kd.C_drewN ?_ _) | (with_reducible refine Kd.C_drew ?_))); (case side2 => exact HC0.out); rintro e w' ⟨rfl, ⟨nd, rfl⟩⟩; refine ⟨_, rfl, ?_⟩))
    go_ret
    exact ⟨by first | rfl | (refine congrArg Ending.returned (congrArg (Value.int .i64) (?_ : (0 : Int) = _)); decide +kernel) | (simp [errW_none, errW_some] <;> rfl) | (simp [*, errW_none, errW_some] <;> rfl), by repeat (first | (with_reducible first | exact HB.out | apply below_alloc | apply pw_below_drewN | apply below_drew1) | exact HB.out)⟩
  · replace c3 := Bool.eq_false_iff.mpr c3
    subst c3
    have H1 : ((spec_DrawSumOf.f k l0).bind fun t165 => ((spec_DrawPlaces.f k l0).bind fun t166 => ((impl_Sealed.f k t165).bind fun bt169 => ((impl_Unsealed.f k bt169.1).bind fun bt171 => (if bt169.2 = true then (if bt171.2 = true then (if bt171.1.toList = t165.toList then (laws_FnTurned.j0 k t165 bt169.1 t166 ((bt169.1.size : Int) != (wrap64 ((t165.size : Int) + 4)))) else (laws_FnTurned.j0 k t165 bt169.1 t166 true)) else (laws_FnTurned.j0 k t165 bt169.1 t166 true)) else (laws_FnTurned.j0 k t165 bt169.1 t166 true)))))) = some r := by rw [if_neg (show ¬ (false = true) by decide)] at H; exact H
    clear H
    have H := H1
    clear H1
    replace H := Option.bind_eq_some_iff.mp H
    obtain ⟨t165, A40, H⟩ := H
    replace H : ((spec_DrawPlaces.f k l0).bind fun t166 => ((impl_Sealed.f k t165).bind fun bt169 => ((impl_Unsealed.f k bt169.1).bind fun bt171 => (if bt169.2 = true then (if bt171.2 = true then (if bt171.1.toList = t165.toList then (laws_FnTurned.j0 k t165 bt169.1 t166 ((bt169.1.size : Int) != (wrap64 ((t165.size : Int) + 4)))) else (laws_FnTurned.j0 k t165 bt169.1 t166 true)) else (laws_FnTurned.j0 k t165 bt169.1 t166 true)) else (laws_FnTurned.j0 k t165 bt169.1 t166 true))))) = some r := H
    have A4 := Aside0.mk A40
    clear A40
    replace H := Option.bind_eq_some_iff.mp H
    obtain ⟨t166, A50, H⟩ := H
    replace H : ((impl_Sealed.f k t165).bind fun bt169 => ((impl_Unsealed.f k bt169.1).bind fun bt171 => (if bt169.2 = true then (if bt171.2 = true then (if bt171.1.toList = t165.toList then (laws_FnTurned.j0 k t165 bt169.1 t166 ((bt169.1.size : Int) != (wrap64 ((t165.size : Int) + 4)))) else (laws_FnTurned.j0 k t165 bt169.1 t166 true)) else (laws_FnTurned.j0 k t165 bt169.1 t166 true)) else (laws_FnTurned.j0 k t165 bt169.1 t166 true)))) = some r := H
    have A5 := Aside0.mk A50
    clear A50
    replace H := Option.bind_eq_some_iff.mp H
    obtain ⟨⟨t169, t170⟩, A60, H⟩ := H
    replace H : ((impl_Unsealed.f k t169).bind fun bt171 => (if t170 = true then (if bt171.2 = true then (if bt171.1.toList = t165.toList then (laws_FnTurned.j0 k t165 t169 t166 ((t169.size : Int) != (wrap64 ((t165.size : Int) + 4)))) else (laws_FnTurned.j0 k t165 t169 t166 true)) else (laws_FnTurned.j0 k t165 t169 t166 true)) else (laws_FnTurned.j0 k t165 t169 t166 true))) = some r := H
    have A6 := Aside0.mk A60
    clear A60
    replace H := Option.bind_eq_some_iff.mp H
    obtain ⟨⟨t171, t172⟩, A70, H⟩ := H
    replace H : (if t170 = true then (if t172 = true then (if t171.toList = t165.toList then (laws_FnTurned.j0 k t165 t169 t166 ((t169.size : Int) != (wrap64 ((t165.size : Int) + 4)))) else (laws_FnTurned.j0 k t165 t169 t166 true)) else (laws_FnTurned.j0 k t165 t169 t166 true)) else (laws_FnTurned.j0 k t165 t169 t166 true)) = some r := H
    have A7 := Aside0.mk A70
    clear A70
    have HC8 := Aside0.mk H
    clear H
    go_enter Try.func3, Try.ntmps3
    go_upto_region 7 with (first | ((with_reducible refine gate_callee (f := 4) rfl ?_); refine goesL_ (some 14) rfl rfl Try.func4 (by kernel_rfl) rfl #[.slice A0 l0.length c0] rfl (by (try simp only [List.map_toArray, List.map_cons, List.map_nil]); first | done | rfl | (simp only [List.length_drop, List.length_take]; rfl)) ?_; (with_reducible refine (laws_big.calls _ _ l0 false _ ?side1 ?side2 A2.out).mono ?_); (case side1 => repeat (first | exact HR0.out | (with_reducible refine Kd.C_alloc ?_ _) | (with_reducible refine Kd.C_drewN ?_ _) | (with_reducible refine Kd.C_drew ?_))); (case side2 => exact HC0.out); rintro e w' ⟨rfl, ⟨nd, rfl⟩⟩; refine ⟨_, rfl, ?_⟩) | ((with_reducible refine gate_callee (f := 5) rfl ?_); refine goesL_ (some 16) rfl rfl Try.func5 (by kernel_rfl) rfl #[.slice A0 l0.length c0] rfl (by (try simp only [List.map_toArray, List.map_cons, List.map_nil]); first | done | rfl | (simp only [List.length_drop, List.length_take]; rfl)) ?_; (with_reducible refine (spec_DrawSumOf.calls k _ _ l0 t165 _ ?side1 ?side2 A4.out).mono ?_); (case side1 => repeat (first | exact HR0.out | (with_reducible refine Kd.C_alloc ?_ _) | (with_reducible refine Kd.C_drewN ?_ _) | (with_reducible refine Kd.C_drew ?_))); (case side2 => exact HC0.out); rintro e w9 ⟨rfl, hb⟩; refine ⟨_, rfl, ?_⟩; have n0_ := Aside0.mk (below_step (by repeat (first | (with_reducible first | exact HB.out | apply below_alloc | apply pw_below_drewN | apply below_drew1) | exact HB.out)) hb); clear HB; have HB := n0_; clear n0_; (try clear hb); (try clear hb2); (try clear hk); (try clear hi)) | ((with_reducible refine gate_callee (f := 6) rfl ?_); refine goesL_ (some 18) rfl rfl Try.func6 (by kernel_rfl) rfl #[.slice A0 l0.length c0] rfl (by (try simp only [List.map_toArray, List.map_cons, List.map_nil]); first | done | rfl | (simp only [List.length_drop, List.length_take]; rfl)) ?_; (with_reducible refine (spec_DrawPlaces.calls k _ _ l0 t166 _ ?side1 ?side2 A5.out).mono ?_); (case side1 => repeat (first | exact (Kd.C_below HR0.out HB.out) | (with_reducible refine Kd.C_alloc ?_ _) | (with_reducible refine Kd.C_drewN ?_ _) | (with_reducible refine Kd.C_drew ?_))); (case side2 => exact HC0.out); rintro e w10 ⟨v167, rfl, ho0, hb⟩; refine ⟨_, rfl, ?_⟩; have n0_ := Aside0.mk (Kd.R_lower ho0 (below_size (by repeat (first | (with_reducible first | exact HB.out | apply below_alloc | apply pw_below_drewN | apply below_drew1) | exact HB.out)))); have n1_ := Aside0.mk (below_step (by repeat (first | (with_reducible first | exact HB.out | apply below_alloc | apply pw_below_drewN | apply below_drew1) | exact HB.out)) hb); clear HB; have HO168 := n0_; have HB := n1_; clear n0_ n1_; (try clear hb); (try clear hb2); (try clear hk); (try clear hi); (try clear ho0)) | ((with_reducible refine gate_callee (f := 7) rfl ?_); refine goesL_ (some 21) rfl rfl Try.func7 (by kernel_rfl) rfl #[.string t165] rfl (by (try simp only [List.map_toArray, List.map_cons, List.map_nil]); first | done | rfl | (simp only [List.length_drop, List.length_take]; rfl)) ?_; (with_reducible refine (impl_Sealed.calls k t165 t169 t170 _ A6.out).mono ?_); rintro e w11 ⟨rfl, hb⟩; refine ⟨_, rfl, ?_⟩; have n0_ := Aside0.mk (Kd.R_below (by (with_reducible repeat (first | apply Kd.R_alloc | apply Kd.R_drewN | apply Kd.R_drew)); exact HO168.out) hb); have n1_ := Aside0.mk (below_step (by repeat (first | (with_reducible first | exact HB.out | apply below_alloc | apply pw_below_drewN | apply below_drew1) | exact HB.out)) hb); clear HO168; clear HB; have HO168 := n0_; have HB := n1_; clear n0_ n1_; (try clear hb); (try clear hb2); (try clear hk); (try clear hi)) | ((with_reducible refine gate_callee (f := 8) rfl ?_); refine goesL_ (some 26) rfl rfl Try.func8 (by kernel_rfl) rfl #[.string t169] rfl (by (try simp only [List.map_toArray, List.map_cons, List.map_nil]); first | done | rfl | (simp only [List.length_drop, List.length_take]; rfl)) ?_; (with_reducible refine (impl_Unsealed.calls k t169 t171 t172 _ A7.out).mono ?_); rintro e w12 ⟨rfl, hb⟩; refine ⟨_, rfl, ?_⟩; have n0_ := Aside0.mk (Kd.R_below (by (with_reducible repeat (first | apply Kd.R_alloc | apply Kd.R_drewN | apply Kd.R_drew)); exact HO168.out) hb); have n1_ := Aside0.mk (below_step (by repeat (first | (with_reducible first | exact HB.out | apply below_alloc | apply pw_below_drewN | apply below_drew1) | exact HB.out)) hb); clear HO168; clear HB; have HO168 := n0_; have HB := n1_; clear n0_ n1_; (try clear hb); (try clear hb2); (try clear hk); (try clear hi)))
    (try simp only [Act.put, List.setIfInBounds_toArray, List.set_cons_zero, List.set_cons_succ])
    go_cut [47] (fun v47 wc => ∃ (kq : Nat) (x47_7 : Bool), v47 = .bool x47_7 ∧ Aside0 (laws_FnTurned.j0 kq t165 t169 t166 x47_7 = some r) ∧ Aside0 (kq ≤ k) ∧ Aside0 (Below w.heap.size w wc) ∧ Aside0 (Kd.R (Kd.int .i64) 3 wc w.heap.size (fun _ => True) v167 t166))
    case first =>
      have H := HC8.out
      clear HC8
      by_cases c13 : t170 = true
      · subst c13
        have H1 : (if t172 = true then (if t171.toList = t165.toList then (laws_FnTurned.j0 k t165 t169 t166 ((t169.size : Int) != (wrap64 ((t165.size : Int) + 4)))) else (laws_FnTurned.j0 k t165 t169 t166 true)) else (laws_FnTurned.j0 k t165 t169 t166 true)) = some r := by rw [if_pos rfl] at H; exact H
        clear H
        have H := H1
        clear H1
        by_cases c14 : t172 = true
        · subst c14
          have H1 : (if t171.toList = t165.toList then (laws_FnTurned.j0 k t165 t169 t166 ((t169.size : Int) != (wrap64 ((t165.size : Int) + 4)))) else (laws_FnTurned.j0 k t165 t169 t166 true)) = some r := by rw [if_pos rfl] at H; exact H
          clear H
          have H := H1
          clear H1
          by_cases c15 : t171.toList = t165.toList
          · rw [if_pos c15] at H
            have c15b0 : (t171.toList == t165.toList) = true := beq_iff_eq.mpr c15
            have c15b1 : (t171.toList != t165.toList) = false := bne_eq_false_iff_eq.mpr c15
            clear c15
            (first | rw [c15b0] | (simp only [i64_w, i32_w]; rw [c15b0]) | skip)
            have H' := Aside0.mk H
            clear H
            go_wp2
            go_meet
            case rel => exact ⟨_, (((t169.size : Int) != (wrap64 ((t165.size : Int) + 4)))), (by first | rfl | (refine congrArg Ending.returned (congrArg (Value.int .i64) (?_ : (0 : Int) = _)); decide +kernel) | (simp; done) | (simp [*]; done)), H', ⟨by first | omega | exact Nat.le_refl _⟩, ⟨by repeat (first | (with_reducible first | exact HB.out | apply below_alloc | apply pw_below_drewN | apply below_drew1) | exact HB.out)⟩, ⟨by repeat (first | (with_reducible first | exact HO168.out | apply Kd.R_alloc | apply Kd.R_drewN | apply Kd.R_drew) | exact HO168.out)⟩⟩
          · rw [if_neg c15] at H
            have c15b0 : (t171.toList == t165.toList) = false := beq_eq_false_iff_ne.mpr c15
            have c15b1 : (t171.toList != t165.toList) = true := bne_iff_ne.mpr c15
            (first | rw [c15b0] | (simp only [i64_w, i32_w]; rw [c15b0]) | skip)
            have H' := Aside0.mk H
            clear H
            go_wp2
            go_meet
            case rel => exact ⟨_, (true), (by first | rfl | (refine congrArg Ending.returned (congrArg (Value.int .i64) (?_ : (0 : Int) = _)); decide +kernel) | (simp; done) | (simp [*]; done)), H', ⟨by first | omega | exact Nat.le_refl _⟩, ⟨by repeat (first | (with_reducible first | exact HB.out | apply below_alloc | apply pw_below_drewN | apply below_drew1) | exact HB.out)⟩, ⟨by repeat (first | (with_reducible first | exact HO168.out | apply Kd.R_alloc | apply Kd.R_drewN | apply Kd.R_drew) | exact HO168.out)⟩⟩
        · replace c14 := Bool.eq_false_iff.mpr c14
          subst c14
          have H1 : (laws_FnTurned.j0 k t165 t169 t166 true) = some r := by rw [if_neg (show ¬ (false = true) by decide)] at H; exact H
          clear H
          have H := H1
          clear H1
          have H' := Aside0.mk H
          clear H
          go_wp2
          go_meet
          case rel => exact ⟨_, (true), (by first | rfl | (refine congrArg Ending.returned (congrArg (Value.int .i64) (?_ : (0 : Int) = _)); decide +kernel) | (simp; done) | (simp [*]; done)), H', ⟨by first | omega | exact Nat.le_refl _⟩, ⟨by repeat (first | (with_reducible first | exact HB.out | apply below_alloc | apply pw_below_drewN | apply below_drew1) | exact HB.out)⟩, ⟨by repeat (first | (with_reducible first | exact HO168.out | apply Kd.R_alloc | apply Kd.R_drewN | apply Kd.R_drew) | exact HO168.out)⟩⟩
      · replace c13 := Bool.eq_false_iff.mpr c13
        subst c13
        have H1 : (laws_FnTurned.j0 k t165 t169 t166 true) = some r := by rw [if_neg (show ¬ (false = true) by decide)] at H; exact H
        clear H
        have H := H1
        clear H1
        have H' := Aside0.mk H
        clear H
        go_wp2
        go_meet
        case rel => exact ⟨_, (true), (by first | rfl | (refine congrArg Ending.returned (congrArg (Value.int .i64) (?_ : (0 : Int) = _)); decide +kernel) | (simp; done) | (simp [*]; done)), H', ⟨by first | omega | exact Nat.le_refl _⟩, ⟨by repeat (first | (with_reducible first | exact HB.out | apply below_alloc | apply pw_below_drewN | apply below_drew1) | exact HB.out)⟩, ⟨by repeat (first | (with_reducible first | exact HO168.out | apply Kd.R_alloc | apply Kd.R_drewN | apply Kd.R_drew) | exact HO168.out)⟩⟩
    case rest =>
      clear HC8
      try clear c1
      try clear p2
      try clear c3
      try clear c4
      try clear c5
      try clear c6
      try clear p6
      try clear c7
      try clear c8
      try clear c13
      try clear c14
      try clear c15
      try clear c15b0
      try clear c15b1
      obtain ⟨kq, x47_7, rfl, HA, HJ7, HB, HOP⟩ := hcut
      cases kq with
      | zero => exact absurd HA.out (by simp [laws_FnTurned.j0])
      | succ kj7 =>
        have H := HA.out
        clear HA
        simp only [laws_FnTurned.j0] at H
        by_cases c16 : x47_7 = true
        · subst c16
          have H1 : (some false) = some r := by rw [if_pos rfl] at H; exact H
          clear H
          have H := H1
          clear H1
          obtain rfl := Option.some.inj H
          go_wp2
          go_ret
          exact ⟨by first | rfl | (refine congrArg Ending.returned (congrArg (Value.int .i64) (?_ : (0 : Int) = _)); decide +kernel) | (simp [errW_none, errW_some] <;> rfl) | (simp [*, errW_none, errW_some] <;> rfl), by repeat (first | (with_reducible first | exact HB.out | apply below_alloc | apply pw_below_drewN | apply below_drew1) | exact HB.out)⟩
        · replace c16 := Bool.eq_false_iff.mpr c16
          subst c16
          have H1 : (laws_FnTurned.tail kj7 t165 t169 t166) = some r := by rw [if_neg (show ¬ (false = true) by decide)] at H; exact H
          clear H
          have H := H1
          clear H1
          unfold laws_FnTurned.tail at H
          by_cases hc : 1 < t166.length ∧ 0 < t169.size ∧ t169.size ≤ 1000000 ∧ 0 ≤ rd t166 0 ∧ rd t166 0 < 1000000 ∧ 0 ≤ rd t166 1 ∧ rd t166 1 < 1000000 ∧ t165.size ≤ 1000000
          · rw [if_pos hc] at H
            obtain ⟨k1, k2, k3, k4, k5, k6, k7, k8⟩ := hc
            obtain ⟨⟨u1, u2⟩, B10, H⟩ := Option.bind_eq_some_iff.mp H
            have B1 := Aside0.mk B10
            clear B10
            have HH := Aside0.mk H
            clear H
            obtain ⟨Ap, cp, rfl, hcp, hC⟩ := Kd.R_reads HOP.out
            obtain ⟨ad, e0, h0⟩ := Kd.at_int hC 0 (by omega) (by omega)
            subst e0
            obtain ⟨ad2, e1, h1⟩ := Kd.at_int hC 1 (by omega) (by omega)
            cases e1
            clear hC HOP
            have n0 : ((t169.size : Int) = 0) = False := eq_false (by omega)
            have q0 : ((0 : Int) < (t166.length : Int)) = True := eq_true (by omega)
            have q1 : ((1 : Int) < (t166.length : Int)) = True := eq_true (by omega)
            go_wp2
            rw [Lib.run_convert_string_bytes (u := .string) wc 9 22 5 t169 (by kernel_rfl) (by kernel_rfl) (by kernel_rfl)]
            have hcell := fun j hj => Lib.bytesWorld_cell wc 5 t169 j hj
            have hfz := fun j hj => Go.Proofs.Ytegcackfdgonaaa.G.bytes_frozen wc 5 t169 j hj
            have hb := Lib.bytesWorld_below wc 5 t169
            have hsz := Lib.bytesWorld_size wc 5 t169
            generalize Lib.bytesWorld wc 5 t169 = w13 at *
            generalize grownCap wc t169.size 0 5 = cb at *
            obtain ⟨g, hg⟩ : ∃ g, g = wc.heap.size := ⟨_, rfl⟩
            rw [← hg] at hcell hfz hsz ⊢
            replace h0 : w13.cell? (ad.add 0) = some (Value.int IntKind.i64 (rd t166 0)) := pw_cell_below hb h0
            have ad0 : ad.add 0 = ad := by cases ad; simp [Addr.add]
            rw [ad0] at h0
            replace h1 : w13.cell? (ad.add 1) = some (Value.int IntKind.i64 (rd t166 1)) := pw_cell_below hb h1
            have hn := Aside0.mk (below_step HB.out hb)
            have hgw := Aside0.mk (show w.heap.size ≤ g by rw [hg]; exact HB.out.size)
            clear HB hb
            have HB := hn
            clear hn hg
            go_wp2
            clear h0 ad0 n0 q0 hsz
            have x0 : 0 ≤ rd t166 0 % (t169.size : Int) := Int.emod_nonneg _ (by omega)
            have x1 : rd t166 0 % (t169.size : Int) < (t169.size : Int) := Int.emod_lt_of_pos _ (by omega)
            have x2 : Int.tmod (rd t166 0) (t169.size : Int) = rd t166 0 % (t169.size : Int) := Int.tmod_eq_emod_of_nonneg k4
            rw [x2] at B1
            clear x2
            generalize rd t166 0 % (t169.size : Int) = ix at *
            have x3 : ix.toNat < t169.size := by omega
            have hcx := hcell _ x3
            have hfx := hfz _ x3
            have y0 := eq_true x0
            have y1 := eq_true x1
            have dC : w13.drew.cell? ⟨g, ix.toNat, none⟩ = some (Value.int IntKind.u8 (((t169.data.toList.getD ix.toNat 0).toNat : Nat) : Int)) := hcx
            have dF : w13.drew.frozen? ⟨g, ix.toNat, none⟩ = false := hfx
            rw [show ad.add 1 = ⟨ad.block, ad.off + 1, none⟩ from rfl] at h1
            have dP : w13.drew.cell? ⟨ad.block, ad.off + 1, none⟩ = some (Value.int IntKind.i64 (rd t166 1)) := h1
            have dA : ∀ j, j < t169.size → w13.drew.cell? ⟨g, j, none⟩ = some (.int .u8 (((t169.data.toList.getD j 0).toNat : Nat) : Int)) := hcell
            have n0_ := Aside0.mk (below_drew1 HB.out)
            clear HB hcell hfz hcx hfx h1
            have HB := n0_
            clear n0_
            refine start_ (n := 15) (S := fun w' => w'.cell? ⟨g, ix.toNat, none⟩ = some (Value.int IntKind.u8 (((t169.data.toList.getD ix.toNat 0).toNat : Nat) : Int)) ∧ w'.cell? ⟨ad.block, ad.off + 1, none⟩ = some (Value.int IntKind.i64 (rd t166 1))) (ds := [14]) #[false, false, false, false, false, false, false, false, false, false, false, false, false, false, false] (by kernel_rfl) rfl rfl ⟨dC, dP⟩ (fun hHeld => ?_)
            clear dP
            generalize w13.drew = w14 at HB dC dF dA hHeld ⊢
            refine pure_ (i := 0) (N := some 56) (v := ?_) (a' := ?_) #[true, false, false, false, false, false, false, false, false, false, false, false, false, false, false] rfl rfl (by kernel_rfl) (fun _ _ _ h => h) (Or.inl ⟨by rfl, ?_⟩) ?_ ?_
            rotate_left
            · intro w'
              go_simp
              with_reducible rfl
            rotate_left
            · simp only [Act.put, List.setIfInBounds_toArray, List.set_cons_zero, List.set_cons_succ, i64_w, i32_w]
              rfl
            refine pure_ (i := 1) (N := some 57) (v := ?_) (a' := ?_) #[true, true, false, false, false, false, false, false, false, false, false, false, false, false, false] rfl rfl (by kernel_rfl) (fun _ _ _ h => h) (Or.inl ⟨by rfl, ?_⟩) ?_ ?_
            rotate_left
            · intro w'
              go_simp
              with_reducible rfl
            rotate_left
            · simp only [Act.put, List.setIfInBounds_toArray, List.set_cons_zero, List.set_cons_succ, i64_w, i32_w]
              rfl
            refine pure_ (i := 2) (N := some 58) (v := ?_) (a' := ?_) #[true, true, true, false, false, false, false, false, false, false, false, false, false, false, false] rfl rfl (by kernel_rfl) (fun _ _ _ h => h) (Or.inl ⟨by rfl, ?_⟩) ?_ ?_
            rotate_left
            · intro w'
              go_simp
              with_reducible rfl
            rotate_left
            · simp only [Act.put, List.setIfInBounds_toArray, List.set_cons_zero, List.set_cons_succ, i64_w, i32_w]
              rfl
            refine pure_ (i := 3) (N := some 59) (v := ?_) (a' := ?_) #[true, true, true, true, false, false, false, false, false, false, false, false, false, false, false] rfl rfl (by kernel_rfl) (fun _ _ _ h => h) (Or.inl ⟨by rfl, ?_⟩) ?_ ?_
            rotate_left
            · intro w'
              go_simp
              with_reducible rfl
            rotate_left
            · simp only [Act.put, List.setIfInBounds_toArray, List.set_cons_zero, List.set_cons_succ, i64_w, i32_w]
              rfl
            refine pure_ (i := 4) (N := some 60) (v := ?_) (a' := ?_) #[true, true, true, true, true, false, false, false, false, false, false, false, false, false, false] rfl rfl (by kernel_rfl) (fun _ _ _ h => h) (Or.inl ⟨by rfl, ?_⟩) ?_ ?_
            rotate_left
            · intro w'
              go_simp
              with_reducible rfl
            rotate_left
            · simp only [Act.put, List.setIfInBounds_toArray, List.set_cons_zero, List.set_cons_succ, i64_w, i32_w]
              rfl
            refine take_ (i := 5) (N := some 61) (v := ?_) (a' := ?_) #[true, true, true, true, true, true, false, false, false, false, false, false, false, false, false] rfl rfl (by kernel_rfl) (fun _ _ _ h => h) (Or.inl ⟨by rfl, ?_⟩) hHeld ?_ ?_
            rotate_left
            · rintro w' ⟨s0, s1⟩
              go_simp
              with_reducible rfl
            rotate_left
            · simp only [Act.put, List.setIfInBounds_toArray, List.set_cons_zero, List.set_cons_succ, i64_w, i32_w]
              rfl
            refine pure_ (i := 6) (N := some 62) (v := ?_) (a' := ?_) #[true, true, true, true, true, true, true, false, false, false, false, false, false, false, false] rfl rfl (by kernel_rfl) (fun _ _ _ h => h) (Or.inl ⟨by rfl, ?_⟩) ?_ ?_
            rotate_left
            · intro w'
              go_simp
              with_reducible rfl
            rotate_left
            · simp only [Act.put, List.setIfInBounds_toArray, List.set_cons_zero, List.set_cons_succ, i64_w, i32_w]
              rfl
            refine pure_ (i := 7) (N := some 63) (v := ?_) (a' := ?_) #[true, true, true, true, true, true, true, true, false, false, false, false, false, false, false] rfl rfl (by kernel_rfl) (fun _ _ _ h => h) (Or.inl ⟨by rfl, ?_⟩) ?_ ?_
            rotate_left
            · intro w'
              go_simp
              with_reducible rfl
            rotate_left
            · simp only [Act.put, List.setIfInBounds_toArray, List.set_cons_zero, List.set_cons_succ, i64_w, i32_w]
              rfl
            refine take_ (i := 8) (N := some 64) (v := ?_) (a' := ?_) #[true, true, true, true, true, true, true, true, true, false, false, false, false, false, false] rfl rfl (by kernel_rfl) (fun _ _ _ h => h) (Or.inl ⟨by rfl, ?_⟩) hHeld ?_ ?_
            rotate_left
            · rintro w' ⟨s0, s1⟩
              go_simp
              with_reducible rfl
            rotate_left
            · simp only [Act.put, List.setIfInBounds_toArray, List.set_cons_zero, List.set_cons_succ, i64_w, i32_w]
              rfl
            refine pure_ (i := 9) (N := some 65) (v := ?_) (a' := ?_) #[true, true, true, true, true, true, true, true, true, true, false, false, false, false, false] rfl rfl (by kernel_rfl) (fun _ _ _ h => h) (Or.inl ⟨by rfl, ?_⟩) ?_ ?_
            rotate_left
            · intro w'
              go_simp
              with_reducible rfl
            rotate_left
            · simp only [Act.put, List.setIfInBounds_toArray, List.set_cons_zero, List.set_cons_succ, i64_w, i32_w]
              rfl
            refine pure_ (i := 10) (N := some 66) (v := ?_) (a' := ?_) #[true, true, true, true, true, true, true, true, true, true, true, false, false, false, false] rfl rfl (by kernel_rfl) (fun _ _ _ h => h) (Or.inl ⟨by rfl, ?_⟩) ?_ ?_
            rotate_left
            · intro w'
              go_simp
              with_reducible rfl
            rotate_left
            · simp only [Act.put, List.setIfInBounds_toArray, List.set_cons_zero, List.set_cons_succ, i64_w, i32_w]
              rfl
            refine pure_ (i := 11) (N := some 67) (v := ?_) (a' := ?_) #[true, true, true, true, true, true, true, true, true, true, true, true, false, false, false] rfl rfl (by kernel_rfl) (fun _ _ _ h => h) (Or.inl ⟨by rfl, ?_⟩) ?_ ?_
            rotate_left
            · intro w'
              go_simp
              with_reducible rfl
            rotate_left
            · simp only [Act.put, List.setIfInBounds_toArray, List.set_cons_zero, List.set_cons_succ, i64_w, i32_w]
              rfl
            refine pure_ (i := 12) (N := some 68) (v := ?_) (a' := ?_) #[true, true, true, true, true, true, true, true, true, true, true, true, true, false, false] rfl rfl (by kernel_rfl) (fun _ _ _ h => h) (Or.inl ⟨by rfl, ?_⟩) ?_ ?_
            rotate_left
            · intro w'
              go_simp
              with_reducible rfl
            rotate_left
            · simp only [Act.put, List.setIfInBounds_toArray, List.set_cons_zero, List.set_cons_succ, i64_w, i32_w]
              rfl
            refine pure_ (i := 13) (N := some 69) (v := ?_) (a' := ?_) #[true, true, true, true, true, true, true, true, true, true, true, true, true, true, false] rfl rfl (by kernel_rfl) (fun _ _ _ h => h) (Or.inl ⟨by rfl, ?_⟩) ?_ ?_
            rotate_left
            · intro w'
              go_simp
              with_reducible rfl
            rotate_left
            · simp only [Act.put, List.setIfInBounds_toArray, List.set_cons_zero, List.set_cons_succ, i64_w, i32_w]
              rfl
            refine last_ (i := 14) (N := none) #[true, true, true, true, true, true, true, true, true, true, true, true, true, true, true] rfl rfl (by kernel_rfl) (by decide) (fun K hK => ?_)
            refine skip_ (w1 := ?_) (by rfl) rfl ?_ ?_
            rotate_left
            · go_simp
              rfl
            refine hK.out _ _ ?_
            clear hK K
            refine done_ (by kernel_rfl) ?_
            have z1 : IntKind.u8.wrap (wrap64 (1 + Int.tmod (rd t166 1) 255)) = 1 + Int.tmod (rd t166 1) 255 := by
              rw [Int.tmod_eq_emod_of_nonneg k6, IntKind.wrap_u8]
              unfold wrap64
              omega
            have z2 : (((t169.data.toList.getD ix.toNat 0).toNat : Nat) : Int) = (((t169.data[ix.toNat]'x3).toNat : Nat) : Int) := by
              rw [List.getD_eq_getElem?_getD, List.getElem?_eq_getElem (by exact x3)]
              rfl
            rw [z1, ← z2]
            clear z1 z2 dC dF hHeld y0 y1
            have hR := Go.Proofs.Ytegcackfdgonaaa.G.turn_reads (v := Go.bits .xor .u8 (((t169.data.toList.getD ix.toNat 0).toNat : Nat) : Int) (1 + Int.tmod (rd t166 1) 255)) x3 (by omega) dA
            have hSt := string_of_reads (P := Try.prog) (src := 22) (dst := 9) (e := 5) (c := cb) (by kernel_rfl) (by kernel_rfl) (by kernel_rfl) hR
            clear hR dA
            have n0_ := Aside0.mk (below_set (j := ix.toNat) (v := .int .u8 (Go.bits .xor .u8 (((t169.data.toList.getD ix.toNat 0).toNat : Nat) : Int) (1 + Int.tmod (rd t166 1) 255))) HB.out hgw.out)
            clear HB
            have HB := n0_
            clear n0_
            unfold Go.Proofs.Ytegcackfdgonaaa.G.turnT at B1
            generalize hTT : strOfNums ((Go.Proofs.Ytegcackfdgonaaa.G.byteNums t169).set ix.toNat (Go.bits .xor .u8 (((t169.data.toList.getD ix.toNat 0).toNat : Nat) : Int) (1 + Int.tmod (rd t166 1) 255))) = tt at *
            clear hTT
            generalize w14.setCell ⟨g, ix.toNat, none⟩ (.int .u8 (Go.bits .xor .u8 (((t169.data.toList.getD ix.toNat 0).toNat : Nat) : Int) (1 + Int.tmod (rd t166 1) 255))) = w15 at *
            have H := HH.out
            clear HH
            by_cases hu : u2 = true
            · subst hu
              rw [if_pos rfl] at H
              obtain rfl := Option.some.inj H
              go_wp2_with (first | ((with_reducible refine gate_callee (f := 8) rfl ?_); refine goesL_ (some 73) rfl rfl Try.func8 (by kernel_rfl) rfl #[.string tt] rfl (by (try simp only [List.map_toArray, List.map_cons, List.map_nil]); first | done | rfl | (simp only [List.length_drop, List.length_take]; rfl)) ?_; (with_reducible refine (impl_Unsealed.calls kj7 tt u1 true _ B1.out).mono ?_); rintro e w16 ⟨rfl, hb⟩; refine ⟨_, rfl, ?_⟩; have n0_ := Aside0.mk (below_step HB.out hb); clear HB; have HB := n0_; clear n0_; (try clear hb)))
              go_ret
              exact ⟨by first | rfl | (simp; done) | (simp [*]; done), by repeat (first | (with_reducible first | exact HB.out | apply below_alloc | apply pw_below_drewN | apply below_drew1) | exact HB.out)⟩
            · replace hu := Bool.eq_false_iff.mpr hu
              subst hu
              rw [if_neg (show ¬ (false = true) by decide)] at H
              obtain ⟨t1, C10, H⟩ := Option.bind_eq_some_iff.mp H
              obtain ⟨t2, C20, H⟩ := Option.bind_eq_some_iff.mp H
              obtain ⟨t3, C30, H⟩ := Option.bind_eq_some_iff.mp H
              have C1 := Aside0.mk C10
              have C2 := Aside0.mk C20
              have C3 := Aside0.mk C30
              clear C10 C20 C30
              obtain rfl := Option.some.inj H
              have d0 := eq_true (show t165.size + 1 ≤ 9223372036854775807 by omega)
              have d1 : decide (t165.size + 1 ≤ 9223372036854775807) = true := decide_eq_true (by omega)
              have d2 : (9223372036854775807 < t165.size + 1) = False := eq_false (by omega)
              go_wp2_with (first | ((with_reducible refine gate_callee (f := 8) rfl ?_); refine goesL_ (some 73) rfl rfl Try.func8 (by kernel_rfl) rfl #[.string tt] rfl (by (try simp only [List.map_toArray, List.map_cons, List.map_nil]); first | done | rfl | (simp only [List.length_drop, List.length_take]; rfl)) ?_; (with_reducible refine (impl_Unsealed.calls kj7 tt u1 false _ B1.out).mono ?_); rintro e w16 ⟨rfl, hb⟩; refine ⟨_, rfl, ?_⟩; have n0_ := Aside0.mk (below_step HB.out hb); clear HB; have HB := n0_; clear n0_; (try clear hb)) | ((with_reducible refine gate_callee (f := 10) rfl ?_); refine gate_guard (by kernel_rfl) ?_; refine goesL_ (some 80) rfl rfl Try.func10 (by kernel_rfl) rfl #[.string t165] rfl (by (try simp only [List.map_toArray, List.map_cons, List.map_nil]); first | done | rfl | (simp only [List.length_drop, List.length_take]; rfl)) ?_; (with_reducible refine (impl_SumOf.calls kj7 t165 t1 _ C1.out).mono ?_); rintro e w' ⟨rfl, ⟨nd, rfl⟩⟩; refine ⟨_, rfl, ?_⟩) | ((with_reducible refine gate_callee (f := 9) rfl ?_); refine gate_guard (by kernel_rfl) ?_; refine goesL_ (some 81) rfl rfl Try.func9 (by kernel_rfl) rfl #[.int .u32 t1, .string (⟨#[120]⟩ : ByteArray)] rfl (by (try simp only [List.map_toArray, List.map_cons, List.map_nil]); first | done | rfl | (simp only [List.length_drop, List.length_take]; rfl)) ?_; (with_reducible refine (impl_SumMore.calls kj7 t1 (⟨#[120]⟩ : ByteArray) t2 _ C2.out).mono ?_); rintro e w' ⟨rfl, ⟨nd, rfl⟩⟩; refine ⟨_, rfl, ?_⟩) | ((with_reducible refine gate_callee (f := 10) rfl ?_); refine gate_guard (by kernel_rfl) ?_; refine goesL_ (some 84) rfl rfl Try.func10 (by kernel_rfl) rfl #[.string (t165 ++ (⟨#[120]⟩ : ByteArray))] rfl (by (try simp only [List.map_toArray, List.map_cons, List.map_nil]); first | done | rfl | (simp only [List.length_drop, List.length_take]; rfl)) ?_; (with_reducible refine (impl_SumOf.calls kj7 (t165 ++ (⟨#[120]⟩ : ByteArray)) t3 _ C3.out).mono ?_); rintro e w' ⟨rfl, ⟨nd, rfl⟩⟩; refine ⟨_, rfl, ?_⟩))
              go_ret
              exact ⟨by first | rfl | (simp; done) | (simp [*]; done), by repeat (first | (with_reducible first | exact HB.out | apply below_alloc | apply pw_below_drewN | apply below_drew1) | exact HB.out)⟩
          · rw [if_neg hc] at H
            exact absurd H (by simp)

/-- THE ONE PURE STATEMENT of laws_FnTurned: yours. -/
def laws_FnTurned.Pure : Prop := ∀ (l0 : List Int), l0.length ≤ maxLen → l0.length * 1 ≤ 140737488351232 → (∀ x ∈ l0, (Lit.int .u8 x).wf = true) → ∃ k, laws_FnTurned.f k l0 = some true
theorem laws_FnTurned.walk (P : laws_FnTurned.Pure) (a0 : Option Addr) (len0 cap0 : Nat) (z0 : List Int) (w : World) (w0 : (a0 = none ∧ len0 = 0 ∧ cap0 = 0 ∧ z0 = []) ∨ ∃ x, a0 = some x ∧ len0 ≤ cap0 ∧ cap0 ≤ maxLen ∧ z0.length = cap0 ∧ (∀ i, i < z0.length → w.cell? (x.add i) = some (.int .u8 (z0.getD i 0))) ∧ ∀ n ∈ z0, (Lit.int .u8 n).wf = true) (y0 : len0 * 1 ≤ 140737488351232) :
    Calls Try.prog 3 #[.slice a0 len0 cap0] w fun e w' => e = .returned (.bool true) ∧ Below w.heap.size w w' := by
  obtain ⟨l0, rfl, hr0, hm0, hw0, hc0⟩ := ReadsInt.ofRowC w0
  obtain ⟨k, h⟩ := P l0 hm0 y0 hw0
  refine (laws_FnTurned.calls k _ _ l0 true w (Kd.C_of_reads (d := (0 : Int)) (h1 := fun _ => rfl) hr0) hc0 h).mono ?_
  rintro e w' ⟨rfl, hd⟩
  exact ⟨rfl, hd⟩

end Go.Proofs.Ytegcackfdgonaaa.MFnTurned
