-- by this session's own program mp.py over the kit's printer
import Derived.Test.YtkjpelgdppmbjaaGreatDoorSTZip
import Derived.Test.YtkjpelgdppmbjaaGreatDoorSTMFnShortestx0
import Derived.Test.YtkjpelgdppmbjaaGreatDoorSTMFnShortestx2
import Derived.Test.YtkjpelgdppmbjaaGreatDoorSTMFnShortestx3
import Derived.Test.YtkjpelgdppmbjaaGreatDoorSTMFnShortestx4
namespace Go.Proofs.YtkjpelgdppmbjaaGreatDoor.MFnShortest
open Go.RowKit YtkjpelgdppmbjaaGreatDoorW.PrintWords YtkjpelgdppmbjaaGreatDoorW.PrintLast YtkjpelgdppmbjaaGreatDoorW.PrintMore
set_option maxHeartbeats 8000000
set_option maxRecDepth 100000
attribute [local go_sem] max2_int min2_int max_two min_two max_three min_three max_four min_four
set_option linter.unusedVariables false
set_option linter.unusedSimpArgs false

def spec_l07Sub.l0 : Nat → List Int → List Int → List Int → Int → Int → Option (List Int)
 | 0, _, _, _, _, _ => none
 | k + 1, x0, x1, x5, x6, x7 => if x7 < (x0.length : Int) then (if x7 < (x1.length : Int) then (if 0 ≤ x7 then (if (rd x0 x7) < (IntKind.u64.wrap (x6 + (rd x1 x7))) then (if x5.length < 17592186044416 then (spec_l07Sub.l0 k x0 x1 (x5 ++ [IntKind.u64.wrap ((IntKind.u64.wrap ((rd x0 x7) + 4294967296)) - (IntKind.u64.wrap (x6 + (rd x1 x7))))]) 1 (wrap64 (x7 + 1))) else (none)) else (if x5.length < 17592186044416 then (spec_l07Sub.l0 k x0 x1 (x5 ++ [IntKind.u64.wrap ((rd x0 x7) - (IntKind.u64.wrap (x6 + (rd x1 x7))))]) 0 (wrap64 (x7 + 1))) else (none))) else (none)) else (if 0 ≤ x7 then (if (rd x0 x7) < x6 then (if x5.length < 17592186044416 then (spec_l07Sub.l0 k x0 x1 (x5 ++ [IntKind.u64.wrap ((IntKind.u64.wrap ((rd x0 x7) + 4294967296)) - x6)]) 1 (wrap64 (x7 + 1))) else (none)) else (if x5.length < 17592186044416 then (spec_l07Sub.l0 k x0 x1 (x5 ++ [IntKind.u64.wrap ((rd x0 x7) - x6)]) 0 (wrap64 (x7 + 1))) else (none))) else (none))) else (some x5)
def spec_l07Sub.f (k : Nat) (l0 : List Int) (l1 : List Int) : Option (List Int) := spec_l07Sub.l0 k l0 l1 (([] : List Int)) 0 0
theorem spec_l07Sub.calls (k : Nat) (A0 : Option Addr) (c0 : Nat) (l0 : List Int) (A1 : Option Addr) (c1 : Nat) (l1 : List Int) (r : List Int) (w : World) (hr0 : Kd.C (Kd.int .u64) w A0 l0.length l0) (hc0 : l0.length ≤ c0) (hr1 : Kd.C (Kd.int .u64) w A1 l1.length l1) (hc1 : l1.length ≤ c1) (h : spec_l07Sub.f k l0 l1 = some r) :
  Calls Tryz.prog 88 #[.slice A0 l0.length c0, .slice A1 l1.length c1] w fun e w' => ∃ v0_ : Value, e = .returned (v0_) ∧ Kd.R (Kd.int .u64) 24 w' w.heap.size (fun _ => True) v0_ r ∧ Below w.heap.size w w' := by
 have HR0 := Aside0.mk hr0
 have HC0 := Aside0.mk hc0
 clear hr0 hc0
 have HR1 := Aside0.mk hr1
 have HC1 := Aside0.mk hc1
 clear hr1 hc1
 have HB := Aside0.mk (Below.refl w.heap.size w)
 have H : (spec_l07Sub.l0 k l0 l1 (([] : List Int)) 0 0) = some r := h
 clear h
 obtain ⟨y234, hy234⟩ : ∃ y_ : List Int, y_ = (([] : List Int)) := ⟨_, rfl⟩
 replace H : (spec_l07Sub.l0 k l0 l1 y234 0 0) = some r := zT hy234 H
 have Ny234 := Aside0.mk hy234
 clear hy234
 have H' := Aside0.mk H
 clear H
 go_enter Tryz.func88, Tryz.ntmps88
 go_wp2_with (first | ((with_reducible refine gate_dst (N := 10) rfl ?_); refine Kd.R_lit (Kd.int .u64) _ 24 ?hg (N := 10) ?hd (xs := ([] : List Int)) (inner := []) (ok := fun _ => True) (okp := fun _ => True) ?hr ?hp (fun _ hk => hk) trivial (Below.refl _ _) (Nat.le_refl _) (by simp) ?_; (case hd => rfl); (case hg => rfl); (case hr => first | (go_simp; done) | (go_simp; rfl)); (case hp => exact (Reps.none _ _)); intro v235 w3 ho4 hb hg_ hnew_; clear hg_ hnew_; (first | rw [← Ny234.out] at ho4 | (simp only [Int.reduceToNat] at ho4; rw [← Ny234.out] at ho4)); have n0_ := Aside0.mk (Kd.R_lower ho4 (below_size zB)); have n1_ := Aside0.mk (below_step zB hb); clear HB; have HO236 := n0_; have HB := n1_; clear n0_ n1_; clear hb ho4))
 go_loopg [5, 6, 7] k (fun kq v5 v6 v7 w' => ∃ (x5_1 : List Int) (x6_1 : Int) (x7_1 : Int), v6 = .int .u64 x6_1 ∧ v7 = .int .i64 x7_1 ∧ Aside0 (spec_l07Sub.l0 kq l0 l1 x5_1 x6_1 x7_1 = some r) ∧ Aside0 (kq ≤ k) ∧ Aside0 (Kd.R (Kd.int .u64) 24 w' w.heap.size (fun _ => True) v5 x5_1) ∧ Aside0 (Below w.heap.size w w'))
 case atStart => exact ⟨(y234), (0), (0), zE, zE, H', ⟨Nat.le_refl _⟩, ⟨zR HO236.out⟩, ⟨zB⟩⟩
 case round =>
  clear H'
  obtain ⟨x5_1, x6_1, x7_1, rfl, rfl, HA, HK1, HO_5, HB⟩ := hrel
  cases gk with
  | zero => exact absurd HA.out (by simp [spec_l07Sub.l0])
  | succ k1 =>
   have H := HA.out
   clear HA
   simp only [spec_l07Sub.l0] at H
   by_cases c5 : x7_1 < (l0.length : Int)
   ·rw [if_pos c5] at H
    have c5b0 := decide_eq_true c5
    clear c5
    by_cases c6 : x7_1 < (l1.length : Int)
    ·rw [if_pos c6] at H
     have c6b0 := decide_eq_true c6
     clear c6
     by_cases c7 : 0 ≤ x7_1
     ·rw [if_pos c7] at H
      have c7b0 := decide_eq_true c7
      clear c7
      by_cases c8 : (rd l0 x7_1) < (IntKind.u64.wrap (x6_1 + (rd l1 x7_1)))
      ·rw [if_pos c8] at H
       have c8b0 := decide_eq_true c8
       clear c8
       by_cases c9 : x5_1.length < 17592186044416
       ·rw [if_pos c9] at H
        have LMc9 := Aside0.mk c9
        clear c9
        obtain ⟨y239, hy239⟩ : ∃ y_ : List Int, y_ = (x5_1 ++ [IntKind.u64.wrap ((IntKind.u64.wrap ((rd l0 x7_1) + 4294967296)) - (IntKind.u64.wrap (x6_1 + (rd l1 x7_1))))]) := ⟨_, rfl⟩
        replace H : (spec_l07Sub.l0 k1 l0 l1 y239 1 (wrap64 (x7_1 + 1))) = some r := zT hy239 H
        have Ny239 := Aside0.mk hy239
        clear hy239
        have H' := Aside0.mk H
        clear H
        have p237 : 0 ≤ (x7_1 : Int) := of_decide_eq_true zA
        have q237 : x7_1 < (l1.length : Int) := of_decide_eq_true zA
        obtain ⟨ad237, e237, hx237_0⟩ := Kd.at_int HR1.out x7_1 p237 q237
        cases e237
        replace hx237_0 := (HB.out.cell (World.block_lt_of_cell? w _ hx237_0)).trans hx237_0
        replace p237 := eq_true p237
        replace q237 := eq_true q237
        have p238 : 0 ≤ (x7_1 : Int) := of_decide_eq_true zA
        have q238 : x7_1 < (l0.length : Int) := of_decide_eq_true zA
        obtain ⟨ad238, e238, hx238_0⟩ := Kd.at_int HR0.out x7_1 p238 q238
        cases e238
        replace hx238_0 := (HB.out.cell (World.block_lt_of_cell? w _ hx238_0)).trans hx238_0
        replace p238 := eq_true p238
        replace q238 := eq_true q238
        go_wp2_with (first | ((with_reducible refine gate_builtin (b := .append) (xs := #[.tmp 37, .tmp 41]) rfl ?_); at_builtin; refine Kd.R_append (Kd.int .u64) (w0 := w) w.heap.size rfl (.tmp 37) (.tmp 41) 51 24 (.int .u64 0) 8 rfl Tryz.underlying51 info24 rfl (by decide) (by omega) u5 x5_1 (IntKind.u64.wrap ((IntKind.u64.wrap ((rd l0 x7_1) + 4294967296)) - (IntKind.u64.wrap (x6_1 + (rd l1 x7_1))))) [.int .u64 (IntKind.u64.wrap ((IntKind.u64.wrap ((rd l0 x7_1) + 4294967296)) - (IntKind.u64.wrap (x6_1 + (rd l1 x7_1)))))] (fun _ => True) (fun _ => False) rfl rfl ?aP (fun _ hk => hk.elim) ?aF ?aO ?aB ?aS ?aL ?_; (case aP => exact rfl); (case aB => exact zB); (case aF => exact (fun _ _ => trivial)); (case aO => exact (zR HO_5.out)); (case aS => exact (below_size zB)); (case aL => have := LMc9.out; omega); intro v240 w10 ho hb hg hat; rw [← Ny239.out] at ho; have n0_ := Aside0.mk (hb); have n1_ := Aside0.mk (ho); clear HB; clear HO_5; have HB := n0_; have HO241 := n1_; clear n0_ n1_; clear ho hb hg hat))
        go_roundg k1
        case measure => have := HK1.out; omega
        case rel => exact ⟨(y239), (1), (wrap64 (x7_1 + 1)), zE, zE, H', ⟨by have := HK1.out; omega⟩, ⟨zR HO241.out⟩, ⟨zB⟩⟩
       ·rw [if_neg c9] at H
        exact absurd H (by simp)
      ·rw [if_neg c8] at H
       have c8b0 := decide_eq_false c8
       clear c8
       by_cases c11 : x5_1.length < 17592186044416
       ·rw [if_pos c11] at H
        have LMc11 := Aside0.mk c11
        clear c11
        obtain ⟨y242, hy242⟩ : ∃ y_ : List Int, y_ = (x5_1 ++ [IntKind.u64.wrap ((rd l0 x7_1) - (IntKind.u64.wrap (x6_1 + (rd l1 x7_1))))]) := ⟨_, rfl⟩
        replace H : (spec_l07Sub.l0 k1 l0 l1 y242 0 (wrap64 (x7_1 + 1))) = some r := zT hy242 H
        have Ny242 := Aside0.mk hy242
        clear hy242
        have H' := Aside0.mk H
        clear H
        have p237 : 0 ≤ (x7_1 : Int) := of_decide_eq_true zA
        have q237 : x7_1 < (l1.length : Int) := of_decide_eq_true zA
        obtain ⟨ad237, e237, hx237_0⟩ := Kd.at_int HR1.out x7_1 p237 q237
        cases e237
        replace hx237_0 := (HB.out.cell (World.block_lt_of_cell? w _ hx237_0)).trans hx237_0
        replace p237 := eq_true p237
        replace q237 := eq_true q237
        have p238 : 0 ≤ (x7_1 : Int) := of_decide_eq_true zA
        have q238 : x7_1 < (l0.length : Int) := of_decide_eq_true zA
        obtain ⟨ad238, e238, hx238_0⟩ := Kd.at_int HR0.out x7_1 p238 q238
        cases e238
        replace hx238_0 := (HB.out.cell (World.block_lt_of_cell? w _ hx238_0)).trans hx238_0
        replace p238 := eq_true p238
        replace q238 := eq_true q238
        go_wp2_with (first | ((with_reducible refine gate_builtin (b := .append) (xs := #[.tmp 37, .tmp 41]) rfl ?_); at_builtin; refine Kd.R_append (Kd.int .u64) (w0 := w) w.heap.size rfl (.tmp 37) (.tmp 41) 51 24 (.int .u64 0) 8 rfl Tryz.underlying51 info24 rfl (by decide) (by omega) u5 x5_1 (IntKind.u64.wrap ((rd l0 x7_1) - (IntKind.u64.wrap (x6_1 + (rd l1 x7_1))))) [.int .u64 (IntKind.u64.wrap ((rd l0 x7_1) - (IntKind.u64.wrap (x6_1 + (rd l1 x7_1)))))] (fun _ => True) (fun _ => False) rfl rfl ?aP (fun _ hk => hk.elim) ?aF ?aO ?aB ?aS ?aL ?_; (case aP => exact rfl); (case aB => exact zB); (case aF => exact (fun _ _ => trivial)); (case aO => exact (zR HO_5.out)); (case aS => exact (below_size zB)); (case aL => have := LMc11.out; omega); intro v243 w12 ho hb hg hat; rw [← Ny242.out] at ho; have n0_ := Aside0.mk (hb); have n1_ := Aside0.mk (ho); clear HB; clear HO_5; have HB := n0_; have HO244 := n1_; clear n0_ n1_; clear ho hb hg hat))
        go_roundg k1
        case measure => have := HK1.out; omega
        case rel => exact ⟨(y242), (0), (wrap64 (x7_1 + 1)), zE, zE, H', ⟨by have := HK1.out; omega⟩, ⟨zR HO244.out⟩, ⟨zB⟩⟩
       ·rw [if_neg c11] at H
        exact absurd H (by simp)
     ·rw [if_neg c7] at H
      exact absurd H (by simp)
    ·rw [if_neg c6] at H
     have c6b0 := decide_eq_false c6
     clear c6
     by_cases c13 : 0 ≤ x7_1
     ·rw [if_pos c13] at H
      have c13b0 := decide_eq_true c13
      clear c13
      by_cases c14 : (rd l0 x7_1) < x6_1
      ·rw [if_pos c14] at H
       have c14b0 := decide_eq_true c14
       clear c14
       by_cases c15 : x5_1.length < 17592186044416
       ·rw [if_pos c15] at H
        have LMc15 := Aside0.mk c15
        clear c15
        obtain ⟨y246, hy246⟩ : ∃ y_ : List Int, y_ = (x5_1 ++ [IntKind.u64.wrap ((IntKind.u64.wrap ((rd l0 x7_1) + 4294967296)) - x6_1)]) := ⟨_, rfl⟩
        replace H : (spec_l07Sub.l0 k1 l0 l1 y246 1 (wrap64 (x7_1 + 1))) = some r := zT hy246 H
        have Ny246 := Aside0.mk hy246
        clear hy246
        have H' := Aside0.mk H
        clear H
        have p245 : 0 ≤ (x7_1 : Int) := of_decide_eq_true zA
        have q245 : x7_1 < (l0.length : Int) := of_decide_eq_true zA
        obtain ⟨ad245, e245, hx245_0⟩ := Kd.at_int HR0.out x7_1 p245 q245
        cases e245
        replace hx245_0 := (HB.out.cell (World.block_lt_of_cell? w _ hx245_0)).trans hx245_0
        replace p245 := eq_true p245
        replace q245 := eq_true q245
        go_wp2_with (first | ((with_reducible refine gate_builtin (b := .append) (xs := #[.tmp 37, .tmp 41]) rfl ?_); at_builtin; refine Kd.R_append (Kd.int .u64) (w0 := w) w.heap.size rfl (.tmp 37) (.tmp 41) 51 24 (.int .u64 0) 8 rfl Tryz.underlying51 info24 rfl (by decide) (by omega) u5 x5_1 (IntKind.u64.wrap ((IntKind.u64.wrap ((rd l0 x7_1) + 4294967296)) - x6_1)) [.int .u64 (IntKind.u64.wrap ((IntKind.u64.wrap ((rd l0 x7_1) + 4294967296)) - x6_1))] (fun _ => True) (fun _ => False) rfl rfl ?aP (fun _ hk => hk.elim) ?aF ?aO ?aB ?aS ?aL ?_; (case aP => exact rfl); (case aB => exact zB); (case aF => exact (fun _ _ => trivial)); (case aO => exact (zR HO_5.out)); (case aS => exact (below_size zB)); (case aL => have := LMc15.out; omega); intro v247 w16 ho hb hg hat; rw [← Ny246.out] at ho; have n0_ := Aside0.mk (hb); have n1_ := Aside0.mk (ho); clear HB; clear HO_5; have HB := n0_; have HO248 := n1_; clear n0_ n1_; clear ho hb hg hat))
        go_roundg k1
        case measure => have := HK1.out; omega
        case rel => exact ⟨(y246), (1), (wrap64 (x7_1 + 1)), zE, zE, H', ⟨by have := HK1.out; omega⟩, ⟨zR HO248.out⟩, ⟨zB⟩⟩
       ·rw [if_neg c15] at H
        exact absurd H (by simp)
      ·rw [if_neg c14] at H
       have c14b0 := decide_eq_false c14
       clear c14
       by_cases c17 : x5_1.length < 17592186044416
       ·rw [if_pos c17] at H
        have LMc17 := Aside0.mk c17
        clear c17
        obtain ⟨y249, hy249⟩ : ∃ y_ : List Int, y_ = (x5_1 ++ [IntKind.u64.wrap ((rd l0 x7_1) - x6_1)]) := ⟨_, rfl⟩
        replace H : (spec_l07Sub.l0 k1 l0 l1 y249 0 (wrap64 (x7_1 + 1))) = some r := zT hy249 H
        have Ny249 := Aside0.mk hy249
        clear hy249
        have H' := Aside0.mk H
        clear H
        have p245 : 0 ≤ (x7_1 : Int) := of_decide_eq_true zA
        have q245 : x7_1 < (l0.length : Int) := of_decide_eq_true zA
        obtain ⟨ad245, e245, hx245_0⟩ := Kd.at_int HR0.out x7_1 p245 q245
        cases e245
        replace hx245_0 := (HB.out.cell (World.block_lt_of_cell? w _ hx245_0)).trans hx245_0
        replace p245 := eq_true p245
        replace q245 := eq_true q245
        go_wp2_with (first | ((with_reducible refine gate_builtin (b := .append) (xs := #[.tmp 37, .tmp 41]) rfl ?_); at_builtin; refine Kd.R_append (Kd.int .u64) (w0 := w) w.heap.size rfl (.tmp 37) (.tmp 41) 51 24 (.int .u64 0) 8 rfl Tryz.underlying51 info24 rfl (by decide) (by omega) u5 x5_1 (IntKind.u64.wrap ((rd l0 x7_1) - x6_1)) [.int .u64 (IntKind.u64.wrap ((rd l0 x7_1) - x6_1))] (fun _ => True) (fun _ => False) rfl rfl ?aP (fun _ hk => hk.elim) ?aF ?aO ?aB ?aS ?aL ?_; (case aP => exact rfl); (case aB => exact zB); (case aF => exact (fun _ _ => trivial)); (case aO => exact (zR HO_5.out)); (case aS => exact (below_size zB)); (case aL => have := LMc17.out; omega); intro v250 w18 ho hb hg hat; rw [← Ny249.out] at ho; have n0_ := Aside0.mk (hb); have n1_ := Aside0.mk (ho); clear HB; clear HO_5; have HB := n0_; have HO251 := n1_; clear n0_ n1_; clear ho hb hg hat))
        go_roundg k1
        case measure => have := HK1.out; omega
        case rel => exact ⟨(y249), (0), (wrap64 (x7_1 + 1)), zE, zE, H', ⟨by have := HK1.out; omega⟩, ⟨zR HO251.out⟩, ⟨zB⟩⟩
       ·rw [if_neg c17] at H
        exact absurd H (by simp)
     ·rw [if_neg c13] at H
      exact absurd H (by simp)
   ·rw [if_neg c5] at H
    have c5b0 := decide_eq_false c5
    clear c5
    obtain rfl := Option.some.inj H
    go_wp2
    go_ret
    exact ⟨_, by first | rfl | (simp [errW_none, errW_some] <;> rfl) | (simp [*, errW_none, errW_some] <;> rfl), by (with_reducible repeat (first | apply Kd.R_alloc | apply Kd.R_drewN | apply Kd.R_drew)); exact HO_5.out, zB⟩

mutual
def spec_l07Quotient.j0 : Nat → List Int → List Int → Int → Option (Int)
 | 0, _, _, _ => none
 | k + 1, x0, x1, x5 => (spec_l07Up.f k x1 63).bind fun t260 => (spec_l07Quotient.l0 k x0 x5 0 t260 63)
def spec_l07Quotient.l0 : Nat → List Int → Int → Int → List Int → Int → Option (Int)
 | 0, _, _, _, _, _ => none
 | k + 1, x0, x5, x6, x7, x8 => if x8 ≥ 0 then ((spec_l07Less.f k x0 x7).bind fun t265 => (if t265 = true then ((spec_l07MulAdd.f k x0 2 0).bind fun t266 => (spec_l07Quotient.l0 k t266 x5 (IntKind.u64.wrap (x6 * 2)) x7 (wrap64 (x8 - 1)))) else ((spec_l07Sub.f k x0 x7).bind fun t269 => ((spec_l07MulAdd.f k t269 2 0).bind fun t272 => (spec_l07Quotient.l0 k t272 x5 (IntKind.u64.wrap ((IntKind.u64.wrap (x6 * 2)) + 1)) x7 (wrap64 (x8 - 1))))))) else ((spec_l07Len.f k x0).bind fun t263 => ((spec_RoundTo.f k false x6 (wrap64 (-x5)) (decide (t263 > 0))).bind fun t264 => (some t264)))
end
def spec_l07Quotient.f (k : Nat) (l0 : List Int) (l1 : List Int) : Option (Int) := (spec_l07Bits.f k l1).bind fun t252 => ((spec_l07Bits.f k l0).bind fun t253 => (if (wrap64 ((wrap64 (t252 + 62)) - t253)) > 0 then ((spec_l07Up.f k l0 (wrap64 ((wrap64 (t252 + 62)) - t253))).bind fun t254 => (spec_l07Quotient.j0 k t254 l1 (wrap64 ((wrap64 (t252 + 62)) - t253)))) else ((spec_l07Up.f k l1 (wrap64 (-(wrap64 ((wrap64 (t252 + 62)) - t253))))).bind fun t257 => (spec_l07Quotient.j0 k l0 t257 (wrap64 ((wrap64 (t252 + 62)) - t253))))))
theorem spec_l07Quotient.calls (k : Nat) (P0_ : Nat → Prop) (u9000_ : Value) (l0 : List Int) (P1_ : Nat → Prop) (u9001_ : Value) (l1 : List Int) (r : Int) (w0 w : World) (hB : Below w0.heap.size w0 w) (ho0 : Kd.R (Kd.int .u64) 24 w w0.heap.size P0_ u9000_ l0) (hp0_1 : ∀ k_, P0_ k_ → ¬ P1_ k_) (ho1 : Kd.R (Kd.int .u64) 24 w w0.heap.size P1_ u9001_ l1) (hp1_0 : ∀ k_, P1_ k_ → ¬ P0_ k_) (h : spec_l07Quotient.f k l0 l1 = some r) :
  Calls Tryz.prog 52 #[u9000_, u9001_] w fun e w' => e = .returned (.int .u64 r) ∧ Below w0.heap.size w0 w' ∧ Kept w w' (fun k_ => P0_ k_ ∨ P1_ k_) := by
 have HO0 := Aside0.mk (show Kd.R (Kd.int .u64) 24 w w0.heap.size (fun k_ => ((P0_ k_ ∨ P1_ k_) ∨ w.heap.size ≤ k_) ∧ some k_ ≠ (u9001_ : Value).ownBlock) u9000_ l0 from Kd.R_mono ho0 (fun k_ hk => ⟨(.inl (.inl hk)), fun e_ => hp0_1 k_ hk (ho1.1 k_ e_.symm)⟩))
 have HO1 := Aside0.mk (show Kd.R (Kd.int .u64) 24 w w0.heap.size (fun k_ => ((P0_ k_ ∨ P1_ k_) ∨ w.heap.size ≤ k_) ∧ some k_ ≠ (u9000_ : Value).ownBlock) u9001_ l1 from Kd.R_mono ho1 (fun k_ hk => ⟨(.inl (.inr hk)), fun e_ => hp1_0 k_ hk (ho0.1 k_ e_.symm)⟩))
 have HK := Aside0.mk (Kept.refl w (fun k_ => P0_ k_ ∨ P1_ k_))
 have HW0 := Aside0.mk hB.size
 have HB := Aside0.mk hB
 clear hB
 have H : ((spec_l07Bits.f k l1).bind fun t252 => ((spec_l07Bits.f k l0).bind fun t253 => (if (wrap64 ((wrap64 (t252 + 62)) - t253)) > 0 then ((spec_l07Up.f k l0 (wrap64 ((wrap64 (t252 + 62)) - t253))).bind fun t254 => (spec_l07Quotient.j0 k t254 l1 (wrap64 ((wrap64 (t252 + 62)) - t253)))) else ((spec_l07Up.f k l1 (wrap64 (-(wrap64 ((wrap64 (t252 + 62)) - t253))))).bind fun t257 => (spec_l07Quotient.j0 k l0 t257 (wrap64 ((wrap64 (t252 + 62)) - t253))))))) = some r := h
 clear h
 replace H := zM H
 obtain ⟨t252, A30, H⟩ := H
 try dsimp only at H
 have A3 := Aside0.mk A30
 clear A30
 replace H := zM H
 obtain ⟨t253, A40, H⟩ := H
 try dsimp only at H
 have A4 := Aside0.mk A40
 clear A40
 have HC5 := Aside0.mk H
 clear H
 obtain ⟨Ao6, co6, eo6⟩ := Kd.R_slice HO1.out
 subst eo6
 go_enter Tryz.func52, Tryz.ntmps52
 go_upto_if 16 with (first | ((with_reducible refine gate_callee (f := 85) rfl ?_); refine goesL_ (some 10) rfl rfl Tryz.func85 (by kernel_rfl) rfl #[.slice Ao6 l1.length co6] rfl zL ?_; (with_reducible refine (spec_l07Bits.calls k _ _ l1 t252 _ ?side1 ?side2 A3.out).mono ?_); (case side1 => exact zP (Kd.R_reads' HO1.out).2.2); (case side2 => exact (Kd.R_reads' HO1.out).2.1); rintro e w' ⟨rfl, ⟨nd, rfl⟩⟩; refine ⟨_, rfl, ?_⟩; obtain ⟨Ao7, co7, eo7⟩ := Kd.R_slice HO0.out; subst eo7) | ((with_reducible refine gate_callee (f := 85) rfl ?_); refine goesL_ (some 13) rfl rfl Tryz.func85 (by kernel_rfl) rfl #[.slice Ao7 l0.length co7] rfl zL ?_; (with_reducible refine (spec_l07Bits.calls k _ _ l0 t253 _ ?side1 ?side2 A4.out).mono ?_); (case side1 => exact zP (Kd.R_reads' HO0.out).2.2); (case side2 => exact (Kd.R_reads' HO0.out).2.1); rintro e w' ⟨rfl, ⟨nd, rfl⟩⟩; refine ⟨_, rfl, ?_⟩))
 (try simp only [Act.put, List.setIfInBounds_toArray, List.set_cons_zero, List.set_cons_succ])
 go_cut [0, 1] (fun v0 v1 wc => ∃ (kq : Nat) (x0_4 : List Int) (x1_4 : List Int), Aside0 (spec_l07Quotient.j0 kq x0_4 x1_4 (wrap64 ((wrap64 (t252 + 62)) - t253)) = some r) ∧ Aside0 (kq ≤ k) ∧ Aside0 (Kd.R (Kd.int .u64) 24 wc w0.heap.size (fun k_ => ((P0_ k_ ∨ P1_ k_) ∨ w.heap.size ≤ k_) ∧ some k_ ≠ (v1 : Value).ownBlock) v0 x0_4) ∧ Aside0 (Kd.R (Kd.int .u64) 24 wc w0.heap.size (fun k_ => ((P0_ k_ ∨ P1_ k_) ∨ w.heap.size ≤ k_) ∧ some k_ ≠ (v0 : Value).ownBlock) v1 x1_4) ∧ Aside0 (Kept w wc (fun k_ => P0_ k_ ∨ P1_ k_)) ∧ Aside0 (Below w0.heap.size w0 wc))
 case first =>
  have H := HC5.out
  clear HC5
  by_cases c8 : (wrap64 ((wrap64 (t252 + 62)) - t253)) > 0
  ·rw [if_pos c8] at H
   have c8b0 : decide (0 < (wrap64 ((wrap64 (t252 + 62)) - t253))) = true := decide_eq_true c8
   clear c8
   (first | rw [c8b0] | (simp only [i64_w, i32_w]; rw [c8b0]) | skip)
   replace H := zM H
   obtain ⟨t254, A90, H⟩ := H
   try dsimp only at H
   have A9 := Aside0.mk A90
   clear A90
   have H' := Aside0.mk H
   clear H
   go_wp2_with (first | ((with_reducible refine gate_callee (f := 86) rfl ?_); refine goesL_ (some 19) rfl rfl Tryz.func86 (by kernel_rfl) rfl #[.slice Ao7 l0.length co7, .int .i64 (wrap64 ((wrap64 (t252 + 62)) - t253))] rfl zL ?_; (with_reducible refine (spec_l07Up.calls k _ _ l0 (wrap64 ((wrap64 (t252 + 62)) - t253)) t254 _ ?side1 ?side2 A9.out).mono ?_); (case side1 => exact zP (Kd.R_reads' HO0.out).2.2); (case side2 => exact (Kd.R_reads' HO0.out).2.1); rintro e w10 ⟨v255, rfl, ho0, hb⟩; refine ⟨_, rfl, ?_⟩; have n0_ := Aside0.mk (Kd.R_elder' (zR HO0.out) (Kd.R_base ho0) hb); have n1_ := Aside0.mk (Kd.R_elder' (zR HO1.out) (Kd.R_base ho0) hb); have n2_ := Aside0.mk (Kd.R_lower (Kd.R_new' (Kd.R_new' (Kd.R_newM (M := fun k_ => ((P0_ k_ ∨ P1_ k_) ∨ w.heap.size ≤ k_)) ho0 (by first | exact HK.out.1 | exact (show Kept w _ (fun k_ => P0_ k_ ∨ P1_ k_) from by repeat (first | (with_reducible first | exact HK.out | apply Kept.alloc | apply Kept.drewN | apply Kept.drew) | exact HK.out)).1) (fun k_ h_ => .inr h_)) (Kd.R_lt (zR HO0.out))) (Kd.R_lt (zR HO1.out))) (below_size zB)); have n3_ := Aside0.mk (Kept.below (S := (fun k_ => P0_ k_ ∨ P1_ k_)) (by repeat (first | (with_reducible first | exact HK.out | apply Kept.alloc | apply Kept.drewN | apply Kept.drew) | exact HK.out)) hb); have n4_ := Aside0.mk (below_step zB hb); clear HO0; clear HO1; clear HK; clear HB; have HO0 := n0_; have HO1 := n1_; have HO256 := n2_; have HK := n3_; have HB := n4_; clear n0_ n1_ n2_ n3_ n4_; (try clear hb); (try clear ho0)))
   go_meet
   case rel => exact ⟨_, (t254), (l1), H', ⟨by first | omega | exact Nat.le_refl _⟩, ⟨by (with_reducible repeat (first | apply Kd.R_alloc | apply Kd.R_drewN | apply Kd.R_drew)); exact Kd.R_mono HO256.out (fun _ hk => ⟨hk.1.1.1, hk.2⟩)⟩, ⟨by (with_reducible repeat (first | apply Kd.R_alloc | apply Kd.R_drewN | apply Kd.R_drew)); exact Kd.R_mono HO1.out (fun _ hk => ⟨hk.1.1, hk.2⟩)⟩, ⟨by repeat (first | (with_reducible first | exact HK.out | apply Kept.alloc | apply Kept.drewN | apply Kept.drew) | exact HK.out)⟩, ⟨zB⟩⟩
  ·rw [if_neg c8] at H
   have c8b0 : decide (0 < (wrap64 ((wrap64 (t252 + 62)) - t253))) = false := decide_eq_false c8
   clear c8
   (first | rw [c8b0] | (simp only [i64_w, i32_w]; rw [c8b0]) | skip)
   replace H := zM H
   obtain ⟨t257, A110, H⟩ := H
   try dsimp only at H
   have A11 := Aside0.mk A110
   clear A110
   have H' := Aside0.mk H
   clear H
   go_wp2_with (first | ((with_reducible refine gate_callee (f := 86) rfl ?_); refine goesL_ (some 23) rfl rfl Tryz.func86 (by kernel_rfl) rfl #[.slice Ao6 l1.length co6, .int .i64 (wrap64 (-(wrap64 ((wrap64 (t252 + 62)) - t253))))] rfl zL ?_; (with_reducible refine (spec_l07Up.calls k _ _ l1 (wrap64 (-(wrap64 ((wrap64 (t252 + 62)) - t253)))) t257 _ ?side1 ?side2 A11.out).mono ?_); (case side1 => exact zP (Kd.R_reads' HO1.out).2.2); (case side2 => exact (Kd.R_reads' HO1.out).2.1); rintro e w12 ⟨v258, rfl, ho0, hb⟩; refine ⟨_, rfl, ?_⟩; have n0_ := Aside0.mk (Kd.R_elder' (zR HO0.out) (Kd.R_base ho0) hb); have n1_ := Aside0.mk (Kd.R_elder' (zR HO1.out) (Kd.R_base ho0) hb); have n2_ := Aside0.mk (Kd.R_lower (Kd.R_new' (Kd.R_new' (Kd.R_newM (M := fun k_ => ((P0_ k_ ∨ P1_ k_) ∨ w.heap.size ≤ k_)) ho0 (by first | exact HK.out.1 | exact (show Kept w _ (fun k_ => P0_ k_ ∨ P1_ k_) from by repeat (first | (with_reducible first | exact HK.out | apply Kept.alloc | apply Kept.drewN | apply Kept.drew) | exact HK.out)).1) (fun k_ h_ => .inr h_)) (Kd.R_lt (zR HO0.out))) (Kd.R_lt (zR HO1.out))) (below_size zB)); have n3_ := Aside0.mk (Kept.below (S := (fun k_ => P0_ k_ ∨ P1_ k_)) (by repeat (first | (with_reducible first | exact HK.out | apply Kept.alloc | apply Kept.drewN | apply Kept.drew) | exact HK.out)) hb); have n4_ := Aside0.mk (below_step zB hb); clear HO0; clear HO1; clear HK; clear HB; have HO0 := n0_; have HO1 := n1_; have HO259 := n2_; have HK := n3_; have HB := n4_; clear n0_ n1_ n2_ n3_ n4_; (try clear hb); (try clear ho0)))
   go_meet
   case rel => exact ⟨_, (l0), (t257), H', ⟨by first | omega | exact Nat.le_refl _⟩, ⟨by (with_reducible repeat (first | apply Kd.R_alloc | apply Kd.R_drewN | apply Kd.R_drew)); exact Kd.R_mono HO0.out (fun _ hk => ⟨hk.1.1, hk.2⟩)⟩, ⟨by (with_reducible repeat (first | apply Kd.R_alloc | apply Kd.R_drewN | apply Kd.R_drew)); exact Kd.R_mono HO259.out (fun _ hk => ⟨hk.1.1.1, hk.1.2⟩)⟩, ⟨by repeat (first | (with_reducible first | exact HK.out | apply Kept.alloc | apply Kept.drewN | apply Kept.drew) | exact HK.out)⟩, ⟨zB⟩⟩
 case rest =>
  clear HC5
  obtain ⟨kq, x0_4, x1_4, HA, HJ4, HO_0, HO_1, HK, HB⟩ := hcut
  cases kq with
  | zero => exact absurd HA.out (by simp [spec_l07Quotient.j0])
  | succ kj4 =>
   have H := HA.out
   clear HA
   simp only [spec_l07Quotient.j0] at H
   replace H := zM H
   obtain ⟨t260, A130, H⟩ := H
   try dsimp only at H
   have A13 := Aside0.mk A130
   clear A130
   have H' := Aside0.mk H
   clear H
   obtain ⟨Ao14, co14, eo14⟩ := Kd.R_slice HO_1.out
   subst eo14
   go_wp2_with (first | ((with_reducible refine gate_callee (f := 86) rfl ?_); refine goesL_ (some 25) rfl rfl Tryz.func86 (by kernel_rfl) rfl #[.slice Ao14 x1_4.length co14, .int .i64 63] rfl zL ?_; (with_reducible refine (spec_l07Up.calls kj4 _ _ x1_4 63 t260 _ ?side1 ?side2 A13.out).mono ?_); (case side1 => exact zP (Kd.R_reads' HO_1.out).2.2); (case side2 => exact (Kd.R_reads' HO_1.out).2.1); rintro e w15 ⟨v261, rfl, ho0, hb⟩; refine ⟨_, rfl, ?_⟩; have n0_ := Aside0.mk (Kd.R_elder' (zR HO_0.out) (Kd.R_base ho0) hb); have n1_ := Aside0.mk (Kd.R_elder' (zR HO_1.out) (Kd.R_base ho0) hb); have n2_ := Aside0.mk (Kd.R_lower (Kd.R_new' (Kd.R_new' (Kd.R_newM (M := fun k_ => ((P0_ k_ ∨ P1_ k_) ∨ w.heap.size ≤ k_)) ho0 (by first | exact HK.out.1 | exact (show Kept w _ (fun k_ => P0_ k_ ∨ P1_ k_) from by repeat (first | (with_reducible first | exact HK.out | apply Kept.alloc | apply Kept.drewN | apply Kept.drew) | exact HK.out)).1) (fun k_ h_ => .inr h_)) (Kd.R_lt (zR HO_0.out))) (Kd.R_lt (zR HO_1.out))) (below_size zB)); have n3_ := Aside0.mk (Kept.below (S := (fun k_ => P0_ k_ ∨ P1_ k_)) (by repeat (first | (with_reducible first | exact HK.out | apply Kept.alloc | apply Kept.drewN | apply Kept.drew) | exact HK.out)) hb); have n4_ := Aside0.mk (below_step zB hb); clear HO_0; clear HO_1; clear HK; clear HB; have HO_0 := n0_; have HO_1 := n1_; have HO262 := n2_; have HK := n3_; have HB := n4_; clear n0_ n1_ n2_ n3_ n4_; (try clear hb); (try clear ho0)))
   go_loopg [0, 6, 8] kj4 (fun kq v0 v6 v8 w' => ∃ (x0_2 : List Int) (x6_2 : Int) (x8_2 : Int), v6 = .int .u64 x6_2 ∧ v8 = .int .i64 x8_2 ∧ Aside0 (spec_l07Quotient.l0 kq x0_2 (wrap64 ((wrap64 (t252 + 62)) - t253)) x6_2 t260 x8_2 = some r) ∧ Aside0 (kq ≤ kj4) ∧ Aside0 (Kd.R (Kd.int .u64) 24 w' w0.heap.size (fun k_ => ((P0_ k_ ∨ P1_ k_) ∨ w.heap.size ≤ k_) ∧ some k_ ≠ (v261 : Value).ownBlock) v0 x0_2) ∧ Aside0 (Kd.R (Kd.int .u64) 24 w' w0.heap.size (fun k_ => ((P0_ k_ ∨ P1_ k_) ∨ w.heap.size ≤ k_) ∧ some k_ ≠ (v0 : Value).ownBlock) v261 t260) ∧ Aside0 (Kept w w' (fun k_ => P0_ k_ ∨ P1_ k_)) ∧ Aside0 (Below w0.heap.size w0 w'))
   case atStart => exact ⟨(x0_4), (0), (63), zE, zE, H', ⟨Nat.le_refl _⟩, ⟨by (with_reducible repeat (first | apply Kd.R_alloc | apply Kd.R_drewN | apply Kd.R_drew)); exact Kd.R_mono HO_0.out (fun _ hk => ⟨hk.1.1, hk.2⟩)⟩, ⟨by (with_reducible repeat (first | apply Kd.R_alloc | apply Kd.R_drewN | apply Kd.R_drew)); exact Kd.R_mono HO262.out (fun _ hk => ⟨hk.1.1.1, hk.1.2⟩)⟩, ⟨by repeat (first | (with_reducible first | exact HK.out | apply Kept.alloc | apply Kept.drewN | apply Kept.drew) | exact HK.out)⟩, ⟨zB⟩⟩
   case round =>
    clear H'
    obtain ⟨x0_2, x6_2, x8_2, rfl, rfl, HA, HK2, HO_0, HO_7, HK, HB⟩ := hrel
    cases gk with
    | zero => exact absurd HA.out (by simp [spec_l07Quotient.l0])
    | succ k2 =>
     have H := HA.out
     clear HA
     simp only [spec_l07Quotient.l0] at H
     by_cases c16 : x8_2 ≥ 0
     ·rw [if_pos c16] at H
      have c16b0 : decide (0 ≤ x8_2) = true := decide_eq_true c16
      clear c16
      replace H := zM H
      obtain ⟨t265, A170, H⟩ := H
      try dsimp only at H
      have A17 := Aside0.mk A170
      clear A170
      by_cases c18 : t265 = true
      ·subst c18
       have H1 := H
       rw [if_pos rfl] at H1
       clear H
       have H := H1
       clear H1
       replace H := zM H
       obtain ⟨t266, A190, H⟩ := H
       try dsimp only at H
       have A19 := Aside0.mk A190
       clear A190
       have H' := Aside0.mk H
       clear H
       obtain ⟨Ao20, co20, eo20⟩ := Kd.R_slice HO_0.out
       subst eo20
       obtain ⟨Ao21, co21, eo21⟩ := Kd.R_slice HO_7.out
       subst eo21
       go_wp2_with (first | ((with_reducible refine gate_callee (f := 87) rfl ?_); refine goesL_ (some 34) rfl rfl Tryz.func87 (by kernel_rfl) rfl #[.slice Ao20 x0_2.length co20, .slice Ao21 t260.length co21] rfl zL ?_; (with_reducible refine (spec_l07Less.calls k2 _ _ x0_2 _ _ t260 true _ ?side1 ?side2 ?side3 ?side4 A17.out).mono ?_); (case side1 => exact zP (Kd.R_reads' HO_0.out).2.2); (case side2 => exact (Kd.R_reads' HO_0.out).2.1); (case side3 => exact zP (Kd.R_reads' HO_7.out).2.2); (case side4 => exact (Kd.R_reads' HO_7.out).2.1); rintro e w' ⟨rfl, ⟨nd, rfl⟩⟩; refine ⟨_, rfl, ?_⟩) | ((with_reducible refine gate_callee (f := 51) rfl ?_); refine goesL_ (some 42) rfl rfl Tryz.func51 (by kernel_rfl) rfl #[.slice Ao20 x0_2.length co20, .int .u64 2, .int .u64 0] rfl zL ?_; (with_reducible refine (spec_l07MulAdd.calls k2 _ _ x0_2 2 0 t266 _ ?side1 ?side2 A19.out).mono ?_); (case side1 => exact zP (Kd.R_reads' HO_0.out).2.2); (case side2 => exact (Kd.R_reads' HO_0.out).2.1); rintro e w22 ⟨v267, rfl, ho0, hb⟩; refine ⟨_, rfl, ?_⟩; have n0_ := Aside0.mk (Kd.R_elder' (zR HO_0.out) (Kd.R_base ho0) hb); have n1_ := Aside0.mk (Kd.R_elder' (zR HO_7.out) (Kd.R_base ho0) hb); have n2_ := Aside0.mk (Kd.R_lower (Kd.R_new' (Kd.R_new' (Kd.R_newM (M := fun k_ => ((P0_ k_ ∨ P1_ k_) ∨ w.heap.size ≤ k_)) ho0 (by first | exact HK.out.1 | exact (show Kept w _ (fun k_ => P0_ k_ ∨ P1_ k_) from by repeat (first | (with_reducible first | exact HK.out | apply Kept.alloc | apply Kept.drewN | apply Kept.drew) | exact HK.out)).1) (fun k_ h_ => .inr h_)) (Kd.R_lt (zR HO_0.out))) (Kd.R_lt (zR HO_7.out))) (below_size zB)); have n3_ := Aside0.mk (Kept.below (S := (fun k_ => P0_ k_ ∨ P1_ k_)) (by repeat (first | (with_reducible first | exact HK.out | apply Kept.alloc | apply Kept.drewN | apply Kept.drew) | exact HK.out)) hb); have n4_ := Aside0.mk (below_step zB hb); clear HO_0; clear HO_7; clear HK; clear HB; have HO_0 := n0_; have HO_7 := n1_; have HO268 := n2_; have HK := n3_; have HB := n4_; clear n0_ n1_ n2_ n3_ n4_; (try clear hb); (try clear ho0)))
       go_roundg k2
       case measure => have := HJ4.out; have := HK2.out; omega
       case rel => exact ⟨(t266), (IntKind.u64.wrap (x6_2 * 2)), (wrap64 (x8_2 - 1)), zE, zE, H', ⟨by have := HJ4.out; have := HK2.out; omega⟩, ⟨by (with_reducible repeat (first | apply Kd.R_alloc | apply Kd.R_drewN | apply Kd.R_drew)); exact Kd.R_mono HO268.out (fun _ hk => ⟨hk.1.1.1, hk.2⟩)⟩, ⟨by (with_reducible repeat (first | apply Kd.R_alloc | apply Kd.R_drewN | apply Kd.R_drew)); exact Kd.R_mono HO_7.out (fun _ hk => ⟨hk.1.1, hk.2⟩)⟩, ⟨by repeat (first | (with_reducible first | exact HK.out | apply Kept.alloc | apply Kept.drewN | apply Kept.drew) | exact HK.out)⟩, ⟨zB⟩⟩
      ·replace c18 := Bool.eq_false_iff.mpr c18
       subst c18
       have H1 := H
       rw [if_neg (show ¬ (false = true) by decide)] at H1
       clear H
       have H := H1
       clear H1
       replace H := zM H
       obtain ⟨t269, A230, H⟩ := H
       try dsimp only at H
       have A23 := Aside0.mk A230
       clear A230
       replace H := zM H
       obtain ⟨t272, A240, H⟩ := H
       try dsimp only at H
       have A24 := Aside0.mk A240
       clear A240
       have H' := Aside0.mk H
       clear H
       obtain ⟨Ao25, co25, eo25⟩ := Kd.R_slice HO_0.out
       subst eo25
       obtain ⟨Ao26, co26, eo26⟩ := Kd.R_slice HO_7.out
       subst eo26
       go_wp2_with (first | ((with_reducible refine gate_callee (f := 87) rfl ?_); refine goesL_ (some 34) rfl rfl Tryz.func87 (by kernel_rfl) rfl #[.slice Ao25 x0_2.length co25, .slice Ao26 t260.length co26] rfl zL ?_; (with_reducible refine (spec_l07Less.calls k2 _ _ x0_2 _ _ t260 false _ ?side1 ?side2 ?side3 ?side4 A17.out).mono ?_); (case side1 => exact zP (Kd.R_reads' HO_0.out).2.2); (case side2 => exact (Kd.R_reads' HO_0.out).2.1); (case side3 => exact zP (Kd.R_reads' HO_7.out).2.2); (case side4 => exact (Kd.R_reads' HO_7.out).2.1); rintro e w' ⟨rfl, ⟨nd, rfl⟩⟩; refine ⟨_, rfl, ?_⟩) | ((with_reducible refine gate_callee (f := 88) rfl ?_); refine goesL_ (some 38) rfl rfl Tryz.func88 (by kernel_rfl) rfl #[.slice Ao25 x0_2.length co25, .slice Ao26 t260.length co26] rfl zL ?_; (with_reducible refine (spec_l07Sub.calls k2 _ _ x0_2 _ _ t260 t269 _ ?side1 ?side2 ?side3 ?side4 A23.out).mono ?_); (case side1 => exact zP (Kd.R_reads' HO_0.out).2.2); (case side2 => exact (Kd.R_reads' HO_0.out).2.1); (case side3 => exact zP (Kd.R_reads' HO_7.out).2.2); (case side4 => exact (Kd.R_reads' HO_7.out).2.1); rintro e w27 ⟨v270, rfl, ho0, hb⟩; refine ⟨_, rfl, ?_⟩; have n0_ := Aside0.mk (Kd.R_elder' (zR HO_0.out) (Kd.R_base ho0) hb); have n1_ := Aside0.mk (Kd.R_elder' (zR HO_7.out) (Kd.R_base ho0) hb); have n2_ := Aside0.mk (Kd.R_lower (Kd.R_new' (Kd.R_new' (Kd.R_newM (M := fun k_ => ((P0_ k_ ∨ P1_ k_) ∨ w.heap.size ≤ k_)) ho0 (by first | exact HK.out.1 | exact (show Kept w _ (fun k_ => P0_ k_ ∨ P1_ k_) from by repeat (first | (with_reducible first | exact HK.out | apply Kept.alloc | apply Kept.drewN | apply Kept.drew) | exact HK.out)).1) (fun k_ h_ => .inr h_)) (Kd.R_lt (zR HO_0.out))) (Kd.R_lt (zR HO_7.out))) (below_size zB)); have n3_ := Aside0.mk (Kept.below (S := (fun k_ => P0_ k_ ∨ P1_ k_)) (by repeat (first | (with_reducible first | exact HK.out | apply Kept.alloc | apply Kept.drewN | apply Kept.drew) | exact HK.out)) hb); have n4_ := Aside0.mk (below_step zB hb); clear HO_0; clear HO_7; clear HK; clear HB; have HO_0 := n0_; have HO_7 := n1_; have HO271 := n2_; have HK := n3_; have HB := n4_; clear n0_ n1_ n2_ n3_ n4_; (try clear hb); (try clear ho0); obtain ⟨Ao28, co28, eo28⟩ := Kd.R_slice HO271.out; subst eo28) | ((with_reducible refine gate_callee (f := 51) rfl ?_); refine goesL_ (some 42) rfl rfl Tryz.func51 (by kernel_rfl) rfl #[.slice Ao28 t269.length co28, .int .u64 2, .int .u64 0] rfl zL ?_; (with_reducible refine (spec_l07MulAdd.calls k2 _ _ t269 2 0 t272 _ ?side1 ?side2 A24.out).mono ?_); (case side1 => exact zP (Kd.R_reads' HO271.out).2.2); (case side2 => exact (Kd.R_reads' HO271.out).2.1); rintro e w29 ⟨v273, rfl, ho0, hb⟩; refine ⟨_, rfl, ?_⟩; have n0_ := Aside0.mk (Kd.R_elder' (zR HO_0.out) (Kd.R_base ho0) hb); have n1_ := Aside0.mk (Kd.R_elder' (zR HO_7.out) (Kd.R_base ho0) hb); have n2_ := Aside0.mk (Kd.R_elder' (zR HO271.out) (Kd.R_base ho0) hb); have n3_ := Aside0.mk (Kd.R_lower (Kd.R_new' (Kd.R_new' (Kd.R_new' (Kd.R_newM (M := fun k_ => ((P0_ k_ ∨ P1_ k_) ∨ w.heap.size ≤ k_)) ho0 (by first | exact HK.out.1 | exact (show Kept w _ (fun k_ => P0_ k_ ∨ P1_ k_) from by repeat (first | (with_reducible first | exact HK.out | apply Kept.alloc | apply Kept.drewN | apply Kept.drew) | exact HK.out)).1) (fun k_ h_ => .inr h_)) (Kd.R_lt (zR HO_0.out))) (Kd.R_lt (zR HO_7.out))) (Kd.R_lt (zR HO271.out))) (below_size zB)); have n4_ := Aside0.mk (Kept.below (S := (fun k_ => P0_ k_ ∨ P1_ k_)) (by repeat (first | (with_reducible first | exact HK.out | apply Kept.alloc | apply Kept.drewN | apply Kept.drew) | exact HK.out)) hb); have n5_ := Aside0.mk (below_step zB hb); clear HO_0; clear HO_7; clear HO271; clear HK; clear HB; have HO_0 := n0_; have HO_7 := n1_; have HO271 := n2_; have HO274 := n3_; have HK := n4_; have HB := n5_; clear n0_ n1_ n2_ n3_ n4_ n5_; (try clear hb); (try clear ho0)))
       go_roundg k2
       case measure => have := HJ4.out; have := HK2.out; omega
       case rel => exact ⟨(t272), (IntKind.u64.wrap ((IntKind.u64.wrap (x6_2 * 2)) + 1)), (wrap64 (x8_2 - 1)), zE, zE, H', ⟨by have := HJ4.out; have := HK2.out; omega⟩, ⟨by (with_reducible repeat (first | apply Kd.R_alloc | apply Kd.R_drewN | apply Kd.R_drew)); exact Kd.R_mono HO274.out (fun _ hk => ⟨hk.1.1.1.1, hk.1.2⟩)⟩, ⟨by (with_reducible repeat (first | apply Kd.R_alloc | apply Kd.R_drewN | apply Kd.R_drew)); exact Kd.R_mono HO_7.out (fun _ hk => ⟨hk.1.1.1, hk.2⟩)⟩, ⟨by repeat (first | (with_reducible first | exact HK.out | apply Kept.alloc | apply Kept.drewN | apply Kept.drew) | exact HK.out)⟩, ⟨zB⟩⟩
     ·rw [if_neg c16] at H
      have c16b0 : decide (0 ≤ x8_2) = false := decide_eq_false c16
      clear c16
      replace H := zM H
      obtain ⟨t263, A300, H⟩ := H
      try dsimp only at H
      have A30 := Aside0.mk A300
      clear A300
      replace H := zM H
      obtain ⟨t264, A310, H⟩ := H
      replace H : (some t264) = some r := H
      have A31 := Aside0.mk A310
      clear A310
      obtain rfl := Option.some.inj H
      obtain ⟨Ao32, co32, eo32⟩ := Kd.R_slice HO_0.out
      subst eo32
      go_wp2_with (first | ((with_reducible refine gate_callee (f := 89) rfl ?_); refine goesL_ (some 47) rfl rfl Tryz.func89 (by kernel_rfl) rfl #[.slice Ao32 x0_2.length co32] rfl zL ?_; (with_reducible refine (spec_l07Len.calls k2 _ _ x0_2 t263 _ ?side1 ?side2 A30.out).mono ?_); (case side1 => exact zP (Kd.R_reads' HO_0.out).2.2); (case side2 => exact (Kd.R_reads' HO_0.out).2.1); rintro e w' ⟨rfl, ⟨nd, rfl⟩⟩; refine ⟨_, rfl, ?_⟩) | ((with_reducible refine gate_callee (f := 75) rfl ?_); refine goesL_ (some 49) rfl rfl Tryz.func75 (by kernel_rfl) rfl #[.bool false, .int .u64 x6_2, .int .i64 (wrap64 (-(wrap64 ((wrap64 (t252 + 62)) - t253)))), .bool (decide (t263 > 0))] rfl zL ?_; (with_reducible refine (spec_RoundTo.calls k2 false x6_2 (wrap64 (-(wrap64 ((wrap64 (t252 + 62)) - t253)))) (decide (t263 > 0)) t264 _ A31.out).mono ?_); rintro e w' ⟨rfl, ⟨nd, rfl⟩⟩; refine ⟨_, rfl, ?_⟩))
      go_ret
      exact ⟨zF, by repeat (first | (with_reducible first | exact HB.out | apply below_alloc | apply pw_below_drewN | apply below_drew1) | exact HB.out), by repeat (first | (with_reducible first | exact HK.out | apply Kept.alloc | apply Kept.drewN | apply Kept.drew) | exact HK.out)⟩

mutual
def spec_Nearest.j0 : Nat → ByteArray → Int → Bool → Option (Int)
 | 0, _, _, _ => none
 | k + 1, x0, x1, x25 => if x25 = true then (some 0) else ((spec_l07Bin.f k x0).bind fun t278 => (spec_Nearest.l0 k x1 t278 (([1] : List Int)) 0))
def spec_Nearest.l0 : Nat → Int → List Int → List Int → Int → Option (Int)
 | 0, _, _, _, _ => none
 | k + 1, x1, x5, x6, x7 => if x7 < x1 then ((spec_l07MulAdd.f k x5 10 0).bind fun t284 => (spec_Nearest.l0 k x1 t284 x6 (wrap64 (x7 + 1)))) else (spec_Nearest.l1 k x1 x5 x6 0)
def spec_Nearest.l1 : Nat → Int → List Int → List Int → Int → Option (Int)
 | 0, _, _, _, _ => none
 | k + 1, x1, x5, x6, x8 => if x8 < (wrap64 (-x1)) then ((spec_l07MulAdd.f k x6 10 0).bind fun t287 => (spec_Nearest.l1 k x1 x5 t287 (wrap64 (x8 + 1)))) else ((spec_l07Quotient.f k x5 x6).bind fun t290 => (some t290))
end
def spec_Nearest.f (k : Nat) (a0 : ByteArray) (a1 : Int) : Option (Int) := (spec_FiguresOk.f k a0).bind fun t275 => (if t275 = true then (if (a0.size : Int) > 60 then (spec_Nearest.j0 k a0 a1 true) else ((spec_l01In.f a1 (-500) 500).bind fun t276 => (if t276 = true then ((spec_l07Zero.f k a0).bind fun t277 => (spec_Nearest.j0 k a0 a1 t277)) else (spec_Nearest.j0 k a0 a1 true)))) else (spec_Nearest.j0 k a0 a1 true))
theorem spec_Nearest.calls (k : Nat) (a0 : ByteArray) (a1 : Int) (r : Int) (w : World) (h : spec_Nearest.f k a0 a1 = some r) :
  Calls Tryz.prog 16 #[.string a0, .int .i64 a1] w fun e w' => e = .returned (.int .u64 r) ∧ Below w.heap.size w w' := by
 have HB := Aside0.mk (Below.refl w.heap.size w)
 have H : ((spec_FiguresOk.f k a0).bind fun t275 => (if t275 = true then (if (a0.size : Int) > 60 then (spec_Nearest.j0 k a0 a1 true) else ((spec_l01In.f a1 (-500) 500).bind fun t276 => (if t276 = true then ((spec_l07Zero.f k a0).bind fun t277 => (spec_Nearest.j0 k a0 a1 t277)) else (spec_Nearest.j0 k a0 a1 true)))) else (spec_Nearest.j0 k a0 a1 true))) = some r := h
 clear h
 have HC3 := Aside0.mk H
 clear H
 go_enter Tryz.func16, Tryz.ntmps16
 go_upto_region 1 with (fail)
 go_cut [25] (fun v25 wc => ∃ (kq : Nat) (x25_2 : Bool), v25 = .bool x25_2 ∧ Aside0 (spec_Nearest.j0 kq a0 a1 x25_2 = some r) ∧ Aside0 (kq ≤ k) ∧ Aside0 (Below w.heap.size w wc))
 case first =>
  have H := HC3.out
  clear HC3
  replace H := zM H
  obtain ⟨t275, A40, H⟩ := H
  try dsimp only at H
  have A4 := Aside0.mk A40
  clear A40
  by_cases c5 : t275 = true
  ·subst c5
   have H1 := H
   rw [if_pos rfl] at H1
   clear H
   have H := H1
   clear H1
   by_cases c6 : (a0.size : Int) > 60
   ·rw [if_pos c6] at H
    have c6b0 : decide (60 < (a0.size : Int)) = true := decide_eq_true c6
    have c6b1 : decide (60 < a0.size) = true := decide_eq_true (by omega)
    clear c6
    (first | rw [c6b0] | (simp only [i64_w, i32_w]; rw [c6b0]) | skip)
    have H' := Aside0.mk H
    clear H
    go_wp2_with (first | ((with_reducible refine gate_callee (f := 21) rfl ?_); refine goesL_ (some 10) rfl rfl Tryz.func21 (by kernel_rfl) rfl #[.string a0] rfl zL ?_; (with_reducible refine (spec_FiguresOk.calls k a0 true _ A4.out).mono ?_); rintro e w' ⟨rfl, ⟨nd, rfl⟩⟩; refine ⟨_, rfl, ?_⟩))
    go_meet
    case rel => exact ⟨_, (true), zE, H', ⟨by first | omega | exact Nat.le_refl _⟩, ⟨zB⟩⟩
   ·rw [if_neg c6] at H
    have c6b0 : decide (60 < (a0.size : Int)) = false := decide_eq_false c6
    have c6b1 : decide (60 < a0.size) = false := decide_eq_false (by omega)
    clear c6
    (first | rw [c6b0] | (simp only [i64_w, i32_w]; rw [c6b0]) | skip)
    replace H := zM H
    obtain ⟨t276, A70, H⟩ := H
    try dsimp only at H
    have A7 := Aside0.mk A70
    clear A70
    by_cases c8 : t276 = true
    ·subst c8
     have H1 := H
     rw [if_pos rfl] at H1
     clear H
     have H := H1
     clear H1
     replace H := zM H
     obtain ⟨t277, A90, H⟩ := H
     replace H : (spec_Nearest.j0 k a0 a1 t277) = some r := H
     have A9 := Aside0.mk A90
     clear A90
     have H' := Aside0.mk H
     clear H
     go_wp2_with (first | ((with_reducible refine gate_callee (f := 21) rfl ?_); refine goesL_ (some 10) rfl rfl Tryz.func21 (by kernel_rfl) rfl #[.string a0] rfl zL ?_; (with_reducible refine (spec_FiguresOk.calls k a0 true _ A4.out).mono ?_); rintro e w' ⟨rfl, ⟨nd, rfl⟩⟩; refine ⟨_, rfl, ?_⟩) | (go_at_call 48; (with_reducible refine (spec_l01In.calls a1 (-500) 500 true _ A7.out).mono ?_); rintro e w' ⟨rfl, ⟨nd, rfl⟩⟩) | (go_at_call 49; (with_reducible refine (spec_l07Zero.calls k a0 t277 _ A9.out).mono ?_); rintro e w' ⟨rfl, ⟨nd, rfl⟩⟩))
     go_meet
     case rel => exact ⟨_, (t277), zE, H', ⟨by first | omega | exact Nat.le_refl _⟩, ⟨zB⟩⟩
    ·replace c8 := Bool.eq_false_iff.mpr c8
     subst c8
     have H1 := H
     rw [if_neg (show ¬ (false = true) by decide)] at H1
     clear H
     have H := H1
     clear H1
     have H' := Aside0.mk H
     clear H
     go_wp2_with (first | ((with_reducible refine gate_callee (f := 21) rfl ?_); refine goesL_ (some 10) rfl rfl Tryz.func21 (by kernel_rfl) rfl #[.string a0] rfl zL ?_; (with_reducible refine (spec_FiguresOk.calls k a0 true _ A4.out).mono ?_); rintro e w' ⟨rfl, ⟨nd, rfl⟩⟩; refine ⟨_, rfl, ?_⟩) | (go_at_call 48; (with_reducible refine (spec_l01In.calls a1 (-500) 500 false _ A7.out).mono ?_); rintro e w' ⟨rfl, ⟨nd, rfl⟩⟩))
     go_meet
     case rel => exact ⟨_, (true), zE, H', ⟨by first | omega | exact Nat.le_refl _⟩, ⟨zB⟩⟩
  ·replace c5 := Bool.eq_false_iff.mpr c5
   subst c5
   have H1 := H
   rw [if_neg (show ¬ (false = true) by decide)] at H1
   clear H
   have H := H1
   clear H1
   have H' := Aside0.mk H
   clear H
   go_wp2_with (first | ((with_reducible refine gate_callee (f := 21) rfl ?_); refine goesL_ (some 10) rfl rfl Tryz.func21 (by kernel_rfl) rfl #[.string a0] rfl zL ?_; (with_reducible refine (spec_FiguresOk.calls k a0 false _ A4.out).mono ?_); rintro e w' ⟨rfl, ⟨nd, rfl⟩⟩; refine ⟨_, rfl, ?_⟩))
   go_meet
   case rel => exact ⟨_, (true), zE, H', ⟨by first | omega | exact Nat.le_refl _⟩, ⟨zB⟩⟩
 case rest =>
  clear HC3
  obtain ⟨kq, x25_2, rfl, HA, HJ2, HB⟩ := hcut
  cases kq with
  | zero => exact absurd HA.out (by simp [spec_Nearest.j0])
  | succ kj2 =>
   have H := HA.out
   clear HA
   simp only [spec_Nearest.j0] at H
   by_cases c10 : x25_2 = true
   ·subst c10
    have H1 : (some 0) = some r := by rw [if_pos rfl] at H; exact H
    clear H
    have H := H1
    clear H1
    obtain rfl := Option.some.inj H
    go_wp2
    go_ret
    exact ⟨zF, zB⟩
   ·replace c10 := Bool.eq_false_iff.mpr c10
    subst c10
    have H1 := H
    rw [if_neg (show ¬ (false = true) by decide)] at H1
    clear H
    have H := H1
    clear H1
    replace H := zM H
    obtain ⟨t278, A110, H⟩ := H
    try dsimp only at H
    have A11 := Aside0.mk A110
    clear A110
    obtain ⟨y281, hy281⟩ : ∃ y_ : List Int, y_ = (([1] : List Int)) := ⟨_, rfl⟩
    replace H : (spec_Nearest.l0 kj2 a1 t278 y281 0) = some r := zT hy281 H
    have Ny281 := Aside0.mk hy281
    clear hy281
    have H' := Aside0.mk H
    clear H
    go_wp2_with (first | ((with_reducible refine gate_callee (f := 50) rfl ?_); refine goesL_ (some 27) rfl rfl Tryz.func50 (by kernel_rfl) rfl #[.string a0] rfl zL ?_; (with_reducible refine (spec_l07Bin.calls kj2 a0 t278 _ A11.out).mono ?_); rintro e w12 ⟨v279, rfl, ho0, hb⟩; refine ⟨_, rfl, ?_⟩; have n0_ := Aside0.mk (Kd.R_lower ho0 (below_size zB)); have n1_ := Aside0.mk (below_step zB hb); clear HB; have HO280 := n0_; have HB := n1_; clear n0_ n1_; (try clear hb); (try clear ho0)) | ((with_reducible refine gate_dst (N := 28) rfl ?_); (try (refine gate_guard (by rfl) ?_; dsimp only)); refine Kd.R_lit (Kd.int .u64) _ 24 ?hg (N := 28) ?hd (xs := ([1] : List Int)) (inner := [.int .u64 1]) (ok := fun _ => True) (okp := fun _ => True) ?hr ?hp (fun _ hk => hk) trivial (Below.refl _ _) (Nat.le_refl _) (by simp) ?_; (case hd => rfl); (case hg => rfl); (case hr => first | (go_simp; done) | (go_simp; rfl)); (case hp => exact (Reps.one (show Kd.M (Kd.int .u64) _ _ _ 1 [.int .u64 1] from rfl) (Reps.none _ _))); intro v282 w13 ho14 hb hg_ hnew_; clear hg_ hnew_; (first | rw [← Ny281.out] at ho14 | (simp only [Int.reduceToNat] at ho14; rw [← Ny281.out] at ho14)); have n0_ := Aside0.mk (Kd.R_elder' (zR HO280.out) (Kd.R_base ho14) hb); have n1_ := Aside0.mk (Kd.R_lower (Kd.R_new' ho14 (Kd.R_lt (zR HO280.out))) (below_size zB)); have n2_ := Aside0.mk (below_step zB hb); clear HO280; clear HB; have HO280 := n0_; have HO283 := n1_; have HB := n2_; clear n0_ n1_ n2_; clear hb ho14))
    go_loopg [5, 7] kj2 (fun kq v5 v7 w' => ∃ (x5_2 : List Int) (x7_2 : Int), v7 = .int .i64 x7_2 ∧ Aside0 (spec_Nearest.l0 kq a1 x5_2 y281 x7_2 = some r) ∧ Aside0 (kq ≤ kj2) ∧ Aside0 (Kd.R (Kd.int .u64) 24 w' w.heap.size (fun k_ => some k_ ≠ (v282 : Value).ownBlock) v5 x5_2) ∧ Aside0 (Kd.R (Kd.int .u64) 24 w' w.heap.size (fun k_ => some k_ ≠ (v5 : Value).ownBlock) v282 y281) ∧ Aside0 (Below w.heap.size w w'))
    case atStart => exact ⟨(t278), (0), zE, H', ⟨Nat.le_refl _⟩, ⟨by (with_reducible repeat (first | apply Kd.R_alloc | apply Kd.R_drewN | apply Kd.R_drew)); exact Kd.R_mono HO280.out (fun _ hk => hk.2)⟩, ⟨by (with_reducible repeat (first | apply Kd.R_alloc | apply Kd.R_drewN | apply Kd.R_drew)); exact Kd.R_mono HO283.out (fun _ hk => hk.2)⟩, ⟨zB⟩⟩
    case round =>
     clear H'
     obtain ⟨x5_2, x7_2, rfl, HA, HK2, HO_5, HO_6, HB⟩ := hrel
     cases gk with
     | zero => exact absurd HA.out (by simp [spec_Nearest.l0])
     | succ k2 =>
      have H := HA.out
      clear HA
      simp only [spec_Nearest.l0] at H
      by_cases c15 : x7_2 < a1
      ·rw [if_pos c15] at H
       have c15b0 := decide_eq_true c15
       clear c15
       replace H := zM H
       obtain ⟨t284, A160, H⟩ := H
       try dsimp only at H
       have A16 := Aside0.mk A160
       clear A160
       have H' := Aside0.mk H
       clear H
       obtain ⟨Ao17, co17, eo17⟩ := Kd.R_slice HO_5.out
       subst eo17
       go_wp2_with (first | ((with_reducible refine gate_callee (f := 51) rfl ?_); refine goesL_ (some 35) rfl rfl Tryz.func51 (by kernel_rfl) rfl #[.slice Ao17 x5_2.length co17, .int .u64 10, .int .u64 0] rfl zL ?_; (with_reducible refine (spec_l07MulAdd.calls k2 _ _ x5_2 10 0 t284 _ ?side1 ?side2 A16.out).mono ?_); (case side1 => exact zP (Kd.R_reads' HO_5.out).2.2); (case side2 => exact (Kd.R_reads' HO_5.out).2.1); rintro e w18 ⟨v285, rfl, ho0, hb⟩; refine ⟨_, rfl, ?_⟩; have n0_ := Aside0.mk (Kd.R_elder' (zR HO_5.out) (Kd.R_base ho0) hb); have n1_ := Aside0.mk (Kd.R_elder' (zR HO_6.out) (Kd.R_base ho0) hb); have n2_ := Aside0.mk (Kd.R_lower (Kd.R_new' (Kd.R_new' ho0 (Kd.R_lt (zR HO_5.out))) (Kd.R_lt (zR HO_6.out))) (below_size zB)); have n3_ := Aside0.mk (below_step zB hb); clear HO_5; clear HO_6; clear HB; have HO_5 := n0_; have HO_6 := n1_; have HO286 := n2_; have HB := n3_; clear n0_ n1_ n2_ n3_; (try clear hb); (try clear ho0)))
       go_roundg k2
       case measure => have := HJ2.out; have := HK2.out; omega
       case rel => exact ⟨(t284), (wrap64 (x7_2 + 1)), zE, H', ⟨by have := HJ2.out; have := HK2.out; omega⟩, ⟨by (with_reducible repeat (first | apply Kd.R_alloc | apply Kd.R_drewN | apply Kd.R_drew)); exact Kd.R_mono HO286.out (fun _ hk => hk.2)⟩, ⟨by (with_reducible repeat (first | apply Kd.R_alloc | apply Kd.R_drewN | apply Kd.R_drew)); exact Kd.R_mono HO_6.out (fun _ hk => hk.2)⟩, ⟨zB⟩⟩
      ·rw [if_neg c15] at H
       have c15b0 := decide_eq_false c15
       clear c15
       have H' := Aside0.mk H
       clear H
       go_wp2
       go_loopg [6, 8] k2 (fun kq v6 v8 w' => ∃ (x6_3 : List Int) (x8_3 : Int), v8 = .int .i64 x8_3 ∧ Aside0 (spec_Nearest.l1 kq a1 x5_2 x6_3 x8_3 = some r) ∧ Aside0 (kq ≤ k2) ∧ Aside0 (Kd.R (Kd.int .u64) 24 w' w.heap.size (fun k_ => some k_ ≠ (v6 : Value).ownBlock) u5 x5_2) ∧ Aside0 (Kd.R (Kd.int .u64) 24 w' w.heap.size (fun k_ => some k_ ≠ (u5 : Value).ownBlock) v6 x6_3) ∧ Aside0 (Below w.heap.size w w'))
       case atStart => exact ⟨(y281), (0), zE, H', ⟨Nat.le_refl _⟩, ⟨zR HO_5.out⟩, ⟨zR HO_6.out⟩, ⟨zB⟩⟩
       case round =>
        clear H'
        obtain ⟨x6_3, x8_3, rfl, HA, HK3, HO_5, HO_6, HB⟩ := hrel
        cases gk with
        | zero => exact absurd HA.out (by simp [spec_Nearest.l1])
        | succ k3 =>
         have H := HA.out
         clear HA
         simp only [spec_Nearest.l1] at H
         by_cases c19 : x8_3 < (wrap64 (-a1))
         ·rw [if_pos c19] at H
          have c19b0 := decide_eq_true c19
          clear c19
          replace H := zM H
          obtain ⟨t287, A200, H⟩ := H
          try dsimp only at H
          have A20 := Aside0.mk A200
          clear A200
          have H' := Aside0.mk H
          clear H
          obtain ⟨Ao21, co21, eo21⟩ := Kd.R_slice HO_6.out
          subst eo21
          go_wp2_with (first | ((with_reducible refine gate_callee (f := 51) rfl ?_); refine goesL_ (some 43) rfl rfl Tryz.func51 (by kernel_rfl) rfl #[.slice Ao21 x6_3.length co21, .int .u64 10, .int .u64 0] rfl zL ?_; (with_reducible refine (spec_l07MulAdd.calls k3 _ _ x6_3 10 0 t287 _ ?side1 ?side2 A20.out).mono ?_); (case side1 => exact zP (Kd.R_reads' HO_6.out).2.2); (case side2 => exact (Kd.R_reads' HO_6.out).2.1); rintro e w22 ⟨v288, rfl, ho0, hb⟩; refine ⟨_, rfl, ?_⟩; have n0_ := Aside0.mk (Kd.R_elder' (zR HO_5.out) (Kd.R_base ho0) hb); have n1_ := Aside0.mk (Kd.R_elder' (zR HO_6.out) (Kd.R_base ho0) hb); have n2_ := Aside0.mk (Kd.R_lower (Kd.R_new' (Kd.R_new' ho0 (Kd.R_lt (zR HO_5.out))) (Kd.R_lt (zR HO_6.out))) (below_size zB)); have n3_ := Aside0.mk (below_step zB hb); clear HO_5; clear HO_6; clear HB; have HO_5 := n0_; have HO_6 := n1_; have HO289 := n2_; have HB := n3_; clear n0_ n1_ n2_ n3_; (try clear hb); (try clear ho0)))
          go_roundg k3
          case measure => have := HJ2.out; have := HK2.out; have := HK3.out; omega
          case rel => exact ⟨(t287), (wrap64 (x8_3 + 1)), zE, H', ⟨by have := HJ2.out; have := HK2.out; have := HK3.out; omega⟩, ⟨by (with_reducible repeat (first | apply Kd.R_alloc | apply Kd.R_drewN | apply Kd.R_drew)); exact Kd.R_mono HO_5.out (fun _ hk => hk.2)⟩, ⟨by (with_reducible repeat (first | apply Kd.R_alloc | apply Kd.R_drewN | apply Kd.R_drew)); exact Kd.R_mono HO289.out (fun _ hk => hk.1.2)⟩, ⟨zB⟩⟩
         ·rw [if_neg c19] at H
          have c19b0 := decide_eq_false c19
          clear c19
          replace H := zM H
          obtain ⟨t290, A230, H⟩ := H
          replace H : (some t290) = some r := H
          have A23 := Aside0.mk A230
          clear A230
          obtain rfl := Option.some.inj H
          obtain ⟨Ao24, co24, eo24⟩ := Kd.R_slice HO_5.out
          subst eo24
          obtain ⟨Ao25, co25, eo25⟩ := Kd.R_slice HO_6.out
          subst eo25
          go_wp2_with (first | ((with_reducible refine gate_callee (f := 52) rfl ?_); refine goesL_ (some 46) rfl rfl Tryz.func52 (by kernel_rfl) rfl #[.slice Ao24 x5_2.length co24, .slice Ao25 x6_3.length co25] rfl zL ?_; (with_reducible refine (spec_l07Quotient.calls k3 (fun k_ => some k_ = (.slice Ao24 x5_2.length co24 : Value).ownBlock) (.slice Ao24 x5_2.length co24) x5_2 (fun k_ => some k_ = (.slice Ao25 x6_3.length co25 : Value).ownBlock) (.slice Ao25 x6_3.length co25) x6_3 t290 w _ ?side1 ?side2 ?side3 ?side4 ?side5 A23.out).mono ?_); (case side1 => repeat (first | (with_reducible first | exact HB.out | apply below_alloc | apply pw_below_drewN | apply below_drew1) | exact HB.out)); (case side2 => exact Kd.R_tight rfl HO_5.out); (case side3 => exact fun k_ e_ => (HO_5.out.1 k_ e_.symm)); (case side4 => exact Kd.R_tight rfl HO_6.out); (case side5 => exact fun k_ e_ => (HO_6.out.1 k_ e_.symm)); rintro e w26 ⟨rfl, hb, hkp⟩; refine ⟨_, rfl, ?_⟩; have n0_ := Aside0.mk (hb); clear HB; clear HO_5; clear HO_6; have HB := n0_; clear n0_; (try clear hb); (try clear hkp)))
          go_ret
          exact ⟨zF, zB⟩

end Go.Proofs.YtkjpelgdppmbjaaGreatDoor.MFnShortest
