-- by this session's own program mp.py over the kit's printer
import Derived.Test.YtkjpelgdppmbjaaGreatDoorSYZip
import Derived.Test.YtkjpelgdppmbjaaGreatDoorSYMFnShowsx0
import Derived.Test.YtkjpelgdppmbjaaGreatDoorSYMFnShowsx1
import Derived.Test.YtkjpelgdppmbjaaGreatDoorSYMFnShowsx3
import Derived.Test.YtkjpelgdppmbjaaGreatDoorSYMFnShowsx5
import Derived.Test.YtkjpelgdppmbjaaGreatDoorSYMFnShowsx6
namespace Go.Proofs.YtkjpelgdppmbjaaGreatDoor.MFnShows
open Go.RowKit YtkjpelgdppmbjaaGreatDoorW.PrintWords YtkjpelgdppmbjaaGreatDoorW.PrintLast YtkjpelgdppmbjaaGreatDoorW.PrintMore
set_option maxHeartbeats 8000000
set_option maxRecDepth 100000
noncomputable section
attribute [local go_sem] max2_int min2_int max_two min_two max_three min_three max_four min_four
set_option linter.unusedVariables false
set_option linter.unusedSimpArgs false

def spec_l03Nan.f (k : Nat) (a0 : Int) : Option (Bool) := (spec_PartsOfNumber.f k a0).bind fun bt243 => (some (bt243.1 == 1))
theorem spec_l03Nan.mono : ∀ a0 k, LeO (spec_l03Nan.f k a0) (spec_l03Nan.f (k + 1) a0) := by
 intro a0 k
 unfold spec_l03Nan.f
 with_reducible repeat' first
 | exact spec_PartsOfNumber.mono _ _
 | exact LeO.refl _
 | exact LeO.none _
 | refine LeO.ite ?_ ?_
 | refine LeO.bind ?_ (fun _ => ?_)
theorem spec_l03Nan.calls (k : Nat) (a0 : Int) (r : Bool) (w : World) (h : spec_l03Nan.f k a0 = some r) :
  Calls Tryz.prog 56 #[.int .u64 a0] w fun e w' => e = .returned (.bool r) ∧ Below w.heap.size w w' := by
 have hf35_0 : ∀ (v0 v1 v2 v3 : Value) (W : World), (Instr.field 35 (.agg #[v0, v1, v2, v3]) 0).run Tryz.prog W = .ok (v0) W := fun _ _ _ _ _ => by kernel_rfl
 have HB := Aside0.mk (Below.refl w.heap.size w)
 have H : ((spec_PartsOfNumber.f k a0).bind fun bt243 => (some (bt243.1 == 1))) = some r := h
 clear h
 replace H := zM H
 obtain ⟨⟨t243, t244, t245, t246⟩, A20, H⟩ := H
 replace H : (some (t243 == 1)) = some r := H
 have A2 := Aside0.mk A20
 clear A20
 obtain rfl := Option.some.inj H
 go_enter Tryz.func56, Tryz.ntmps56
 go_wp2_with (first | ((with_reducible refine gate_callee (f := 20) rfl ?_); refine goesL_ (some 4) rfl rfl Tryz.func20 (by kernel_rfl) rfl #[.int .u64 a0] rfl zL ?_; (with_reducible refine (spec_PartsOfNumber.calls k a0 t243 t244 t245 t246 _ A2.out).mono ?_); rintro e w3 ⟨rfl, hb⟩; refine ⟨_, rfl, ?_⟩; replace HB := Aside0.mk (below_step zB hb); (try clear hb)))
 go_ret
 exact ⟨zF, zB⟩

def spec_Negate.f (k : Nat) (a0 : Int) : Option (Int) := (spec_l03Nan.f k a0).bind fun t247 => (if t247 = true then (some 9221120237041090560) else ((spec_l03Pow.f k 63).bind fun t248 => (some (Go.bits .xor .u64 a0 t248))))
theorem spec_Negate.mono : ∀ a0 k, LeO (spec_Negate.f k a0) (spec_Negate.f (k + 1) a0) := by
 intro a0 k
 unfold spec_Negate.f
 with_reducible repeat' first
 | exact spec_l03Nan.mono _ _
 | exact spec_l03Pow.mono _ _
 | exact LeO.refl _
 | exact LeO.none _
 | refine LeO.ite ?_ ?_
 | refine LeO.bind ?_ (fun _ => ?_)
theorem spec_Negate.calls (k : Nat) (a0 : Int) (r : Int) (w : World) (h : spec_Negate.f k a0 = some r) :
  Calls Tryz.prog 37 #[.int .u64 a0] w fun e w' => e = .returned (.int .u64 r) ∧ Below w.heap.size w w' := by
 have HB := Aside0.mk (Below.refl w.heap.size w)
 have H : ((spec_l03Nan.f k a0).bind fun t247 => (if t247 = true then (some 9221120237041090560) else ((spec_l03Pow.f k 63).bind fun t248 => (some (Go.bits .xor .u64 a0 t248))))) = some r := h
 clear h
 replace H := zM H
 obtain ⟨t247, A20, H⟩ := H
 try dsimp only at H
 have A2 := Aside0.mk A20
 clear A20
 by_cases c3 : t247 = true
 ·subst c3
  have H1 := H
  rw [if_pos rfl] at H1
  clear H
  have H := H1
  clear H1
  obtain rfl := Option.some.inj H
  go_enter Tryz.func37, Tryz.ntmps37
  go_wp2_with (first | ((with_reducible refine gate_callee (f := 56) rfl ?_); refine goesL_ (some 4) rfl rfl Tryz.func56 (by kernel_rfl) rfl #[.int .u64 a0] rfl zL ?_; (with_reducible refine (spec_l03Nan.calls k a0 true _ A2.out).mono ?_); rintro e w4 ⟨rfl, hb⟩; refine ⟨_, rfl, ?_⟩; replace HB := Aside0.mk (below_step zB hb); (try clear hb)))
  go_ret
  exact ⟨zF, zB⟩
 ·replace c3 := Bool.eq_false_iff.mpr c3
  subst c3
  have H1 := H
  rw [if_neg (show ¬ (false = true) by decide)] at H1
  clear H
  have H := H1
  clear H1
  replace H := zM H
  obtain ⟨t248, A50, H⟩ := H
  replace H : (some (Go.bits .xor .u64 a0 t248)) = some r := H
  have A5 := Aside0.mk A50
  clear A50
  obtain rfl := Option.some.inj H
  go_enter Tryz.func37, Tryz.ntmps37
  go_wp2_with (first | ((with_reducible refine gate_callee (f := 56) rfl ?_); refine goesL_ (some 4) rfl rfl Tryz.func56 (by kernel_rfl) rfl #[.int .u64 a0] rfl zL ?_; (with_reducible refine (spec_l03Nan.calls k a0 false _ A2.out).mono ?_); rintro e w6 ⟨rfl, hb⟩; refine ⟨_, rfl, ?_⟩; replace HB := Aside0.mk (below_step zB hb); (try clear hb)) | ((with_reducible refine gate_callee (f := 60) rfl ?_); refine goesL_ (some 6) rfl rfl Tryz.func60 (by kernel_rfl) rfl #[.int .i64 63] rfl zL ?_; (with_reducible refine (spec_l03Pow.calls k 63 t248 _ A5.out).mono ?_); rintro e w' ⟨rfl, ⟨nd, rfl⟩⟩; refine ⟨_, rfl, ?_⟩))
  go_ret
  exact ⟨zF, zB⟩

mutual
def laws_FnShows.l0 : Nat → List Int → Int → Option (Bool)
 | 0, _, _ => none
 | k + 1, x6, x7 => if x7 < 2 then (if 0 ≤ x7 then (if x7 < (x6.length : Int) then ((impl_ShowNumber.f k (rd x6 x7)).bind fun t257 => ((spec_PartsOfNumber.f k (rd x6 x7)).bind fun bt258 => ((impl_ReadNumber.f k t257).bind fun bt262 => (if bt258.1 = 1 then (if t257.toList = ([78, 97, 78] : List UInt8) then (if bt258.1 = 2 then (if t257.toList = ([73, 110, 102, 105, 110, 105, 116, 121] : List UInt8) then (if bt258.1 = 4 then (if bt262.2 = true then (laws_FnShows.j1 k x6 x7 (rd x6 x7) t257 bt258.1 (bt262.1 != (rd x6 x7))) else (laws_FnShows.j1 k x6 x7 (rd x6 x7) t257 bt258.1 true)) else (if bt258.1 = 3 then (if bt262.2 = true then (laws_FnShows.j1 k x6 x7 (rd x6 x7) t257 bt258.1 (bt262.1 != (rd x6 x7))) else (laws_FnShows.j1 k x6 x7 (rd x6 x7) t257 bt258.1 true)) else (laws_FnShows.j1 k x6 x7 (rd x6 x7) t257 bt258.1 false))) else (laws_FnShows.j1 k x6 x7 (rd x6 x7) t257 bt258.1 true)) else (if bt258.1 = 4 then (if bt262.2 = true then (laws_FnShows.j1 k x6 x7 (rd x6 x7) t257 bt258.1 (bt262.1 != (rd x6 x7))) else (laws_FnShows.j1 k x6 x7 (rd x6 x7) t257 bt258.1 true)) else (if bt258.1 = 3 then (if bt262.2 = true then (laws_FnShows.j1 k x6 x7 (rd x6 x7) t257 bt258.1 (bt262.1 != (rd x6 x7))) else (laws_FnShows.j1 k x6 x7 (rd x6 x7) t257 bt258.1 true)) else (laws_FnShows.j1 k x6 x7 (rd x6 x7) t257 bt258.1 false)))) else (laws_FnShows.j1 k x6 x7 (rd x6 x7) t257 bt258.1 true)) else (if bt258.1 = 2 then (if t257.toList = ([73, 110, 102, 105, 110, 105, 116, 121] : List UInt8) then (if bt258.1 = 4 then (if bt262.2 = true then (laws_FnShows.j1 k x6 x7 (rd x6 x7) t257 bt258.1 (bt262.1 != (rd x6 x7))) else (laws_FnShows.j1 k x6 x7 (rd x6 x7) t257 bt258.1 true)) else (if bt258.1 = 3 then (if bt262.2 = true then (laws_FnShows.j1 k x6 x7 (rd x6 x7) t257 bt258.1 (bt262.1 != (rd x6 x7))) else (laws_FnShows.j1 k x6 x7 (rd x6 x7) t257 bt258.1 true)) else (laws_FnShows.j1 k x6 x7 (rd x6 x7) t257 bt258.1 false))) else (laws_FnShows.j1 k x6 x7 (rd x6 x7) t257 bt258.1 true)) else (if bt258.1 = 4 then (if bt262.2 = true then (laws_FnShows.j1 k x6 x7 (rd x6 x7) t257 bt258.1 (bt262.1 != (rd x6 x7))) else (laws_FnShows.j1 k x6 x7 (rd x6 x7) t257 bt258.1 true)) else (if bt258.1 = 3 then (if bt262.2 = true then (laws_FnShows.j1 k x6 x7 (rd x6 x7) t257 bt258.1 (bt262.1 != (rd x6 x7))) else (laws_FnShows.j1 k x6 x7 (rd x6 x7) t257 bt258.1 true)) else (laws_FnShows.j1 k x6 x7 (rd x6 x7) t257 bt258.1 false)))))))) else (none)) else (none)) else (some true)
def laws_FnShows.j1 : Nat → List Int → Int → Int → ByteArray → Int → Bool → Option (Bool)
 | 0, _, _, _, _, _, _ => none
 | k + 1, x6, x7, x8, x9, x10, x74 => if x74 = true then (some false) else (if x10 = 4 then ((spec_Negate.f k x8).bind fun t264 => ((impl_ShowNumber.f k t264).bind fun t265 => (if 1 + x9.size ≤ 9223372036854775807 then (if t265.toList = ((⟨#[45]⟩ : ByteArray) ++ x9).toList then (laws_FnShows.l0 k x6 (wrap64 (x7 + 1))) else (some false)) else (none)))) else (laws_FnShows.l0 k x6 (wrap64 (x7 + 1))))
end
def laws_FnShows.f (k : Nat) (l0 : List Int) : Option (Bool) := (laws_big.f l0).bind fun t249 => (if t249 = true then (some true) else ((spec_DrawNumbers.f k l0).bind fun bt250 => (laws_FnShows.l0 k (([Int.tmod bt250.1 9223372036854775808, Int.tmod bt250.2.1 9223372036854775808] : List Int)) 0)))
theorem laws_FnShows.mono_l : ∀ k, (∀ y0 y1, LeO (laws_FnShows.l0 k y0 y1) (laws_FnShows.l0 (k + 1) y0 y1)) ∧ (∀ y0 y1 y2 y3 y4 y5, LeO (laws_FnShows.j1 k y0 y1 y2 y3 y4 y5) (laws_FnShows.j1 (k + 1) y0 y1 y2 y3 y4 y5))
  | 0 => ⟨fun _ _ r h => by simp [laws_FnShows.l0] at h, fun _ _ _ _ _ _ r h => by simp [laws_FnShows.j1] at h⟩
  | k + 1 => by
    obtain ⟨ih0, ih1⟩ := laws_FnShows.mono_l k
    refine ⟨?_, ?_⟩ <;> intros <;> (first | unfold laws_FnShows.l0 | unfold laws_FnShows.j1) <;> with_reducible repeat' first
     | exact ih0 _ _
     | exact ih1 _ _ _ _ _ _
     | exact impl_ReadNumber.mono _ _
     | exact impl_ShowNumber.mono _ _
     | exact spec_DrawNumbers.mono _ _
     | exact spec_Negate.mono _ _
     | exact spec_PartsOfNumber.mono _ _
     | exact LeO.refl _
     | exact LeO.none _
     | refine LeO.ite ?_ ?_
     | refine LeO.bind ?_ (fun _ => ?_)
theorem laws_FnShows.mono : ∀ a0 k, LeO (laws_FnShows.f k a0) (laws_FnShows.f (k + 1) a0) := by
 intro a0 k
 obtain ⟨ih0, ih1⟩ := laws_FnShows.mono_l k
 unfold laws_FnShows.f
 with_reducible repeat' first
 | exact ih0 _ _
 | exact ih1 _ _ _ _ _ _
 | exact impl_ReadNumber.mono _ _
 | exact impl_ShowNumber.mono _ _
 | exact spec_DrawNumbers.mono _ _
 | exact spec_Negate.mono _ _
 | exact spec_PartsOfNumber.mono _ _
 | exact LeO.refl _
 | exact LeO.none _
 | refine LeO.ite ?_ ?_
 | refine LeO.bind ?_ (fun _ => ?_)
theorem laws_FnShows.calls (k : Nat) (A0 : Option Addr) (c0 : Nat) (l0 : List Int) (r : Bool) (w : World) (hm : G.Homey w) (hr0 : Kd.C (Kd.int .u8) w A0 l0.length l0) (hc0 : l0.length ≤ c0) (h : laws_FnShows.f k l0 = some r) :
  Calls Tryz.prog 10 #[.slice A0 l0.length c0] w fun e w' => e = .returned (.bool r) ∧ Below w.heap.size w w' := by
 have hf35_0 : ∀ (v0 v1 v2 v3 : Value) (W : World), (Instr.field 35 (.agg #[v0, v1, v2, v3]) 0).run Tryz.prog W = .ok (v0) W := fun _ _ _ _ _ => by kernel_rfl
 have HR0 := Aside0.mk hr0
 have HC0 := Aside0.mk hc0
 clear hr0 hc0
 have HB := Aside0.mk (Below.refl w.heap.size w)
 have H : ((laws_big.f l0).bind fun t249 => (if t249 = true then (some true) else ((spec_DrawNumbers.f k l0).bind fun bt250 => (laws_FnShows.l0 k (([Int.tmod bt250.1 9223372036854775808, Int.tmod bt250.2.1 9223372036854775808] : List Int)) 0)))) = some r := h
 clear h
 replace H := zM H
 obtain ⟨t249, A20, H⟩ := H
 try dsimp only at H
 have A2 := Aside0.mk A20
 clear A20
 by_cases c3 : t249 = true
 ·subst c3
  have H1 : (some true) = some r := by rw [if_pos rfl] at H; exact H
  clear H
  have H := H1
  clear H1
  obtain rfl := Option.some.inj H
  go_enter Tryz.func10, Tryz.ntmps10
  go_wp2_with (first | ((with_reducible refine gate_callee (f := 12) rfl ?_); refine goesL_ (some 14) rfl rfl Tryz.func12 (by kernel_rfl) rfl #[.slice A0 l0.length c0] rfl zL ?_; (with_reducible refine (laws_big.calls _ _ l0 true _ ?side1 ?side2 A2.out).mono ?_); (case side1 => exact zP HR0.out); (case side2 => exact HC0.out); rintro e w' ⟨rfl, ⟨nd, rfl⟩⟩; refine ⟨_, rfl, ?_⟩))
  go_ret
  exact ⟨zF, zB⟩
 ·replace c3 := Bool.eq_false_iff.mpr c3
  subst c3
  have H1 := H
  rw [if_neg (show ¬ (false = true) by decide)] at H1
  clear H
  have H := H1
  clear H1
  replace H := zM H
  obtain ⟨⟨t250, t251, t252⟩, A40, H⟩ := H
  try dsimp only at H
  have A4 := Aside0.mk A40
  clear A40
  obtain ⟨y253, hy253⟩ : ∃ y_ : List Int, y_ = (([Int.tmod t250 9223372036854775808, Int.tmod t251 9223372036854775808] : List Int)) := ⟨_, rfl⟩
  replace H : (laws_FnShows.l0 k y253 0) = some r := zT hy253 H
  have Ny253 := Aside0.mk hy253
  clear hy253
  have H' := Aside0.mk H
  clear H
  go_enter Tryz.func10, Tryz.ntmps10
  go_wp2_with (first | ((with_reducible refine gate_callee (f := 12) rfl ?_); refine goesL_ (some 14) rfl rfl Tryz.func12 (by kernel_rfl) rfl #[.slice A0 l0.length c0] rfl zL ?_; (with_reducible refine (laws_big.calls _ _ l0 false _ ?side1 ?side2 A2.out).mono ?_); (case side1 => exact zP HR0.out); (case side2 => exact HC0.out); rintro e w' ⟨rfl, ⟨nd, rfl⟩⟩; refine ⟨_, rfl, ?_⟩) | ((with_reducible refine gate_callee (f := 13) rfl ?_); refine goesL_ (some 17) rfl rfl Tryz.func13 (by kernel_rfl) rfl #[.slice A0 l0.length c0] rfl zL ?_; (with_reducible refine (spec_DrawNumbers.calls k _ _ l0 t250 t251 t252 _ ?side1 ?side2 A4.out).mono ?_); (case side1 => exact zP HR0.out); (case side2 => exact HC0.out); rintro e w5 ⟨rfl, hb⟩; refine ⟨_, rfl, ?_⟩; replace HB := Aside0.mk (below_step zB hb); (try clear hb)) | ((with_reducible refine gate_dst (N := 25) rfl ?_); refine Kd.R_lit (Kd.int .u64) _ 24 ?hg (N := 25) ?hd (xs := ([Int.tmod t250 9223372036854775808, Int.tmod t251 9223372036854775808] : List Int)) (inner := [.int .u64 (Int.tmod t250 9223372036854775808), .int .u64 (Int.tmod t251 9223372036854775808)]) (ok := fun _ => True) (okp := fun _ => True) ?hr ?hp (fun _ hk => hk) trivial (Below.refl _ _) (Nat.le_refl _) (by simp) ?_; (case hd => rfl); (case hg => rfl); (case hr => first | (go_simp; done) | (go_simp; rfl)); (case hp => exact (Reps.one (show Kd.M (Kd.int .u64) _ _ _ (Int.tmod t250 9223372036854775808) [.int .u64 (Int.tmod t250 9223372036854775808)] from rfl) (Reps.one (show Kd.M (Kd.int .u64) _ _ _ (Int.tmod t251 9223372036854775808) [.int .u64 (Int.tmod t251 9223372036854775808)] from rfl) (Reps.none _ _)))); intro v254 w6 ho7 hb hg_ hnew_; clear hg_ hnew_; (first | rw [← Ny253.out] at ho7 | (simp only [Int.reduceToNat] at ho7; rw [← Ny253.out] at ho7)); have n0_ := Aside0.mk (Kd.R_lower ho7 (below_size zB)); have n1_ := Aside0.mk (below_step zB hb); clear HB; have HO255 := n0_; have HB := n1_; clear n0_ n1_; clear hb ho7))
  go_loopg [7] k (fun kq v7 w' => ∃ (x7_1 : Int), v7 = .int .i64 x7_1 ∧ Aside0 (laws_FnShows.l0 kq y253 x7_1 = some r) ∧ Aside0 (kq ≤ k) ∧ Aside0 (Kd.R (Kd.int .u64) 24 w' w.heap.size (fun _ => True) v254 y253) ∧ Aside0 (Below w.heap.size w w'))
  case atStart => exact ⟨(0), zE, H', ⟨Nat.le_refl _⟩, ⟨zR HO255.out⟩, ⟨zB⟩⟩
  case round =>
   clear H'
   obtain ⟨x7_1, rfl, HA, HK1, HO_6, HB⟩ := hrel
   cases gk with
   | zero => exact absurd HA.out (by simp [laws_FnShows.l0])
   | succ k1 =>
    have H := HA.out
    clear HA
    simp only [laws_FnShows.l0] at H
    by_cases c8 : x7_1 < 2
    ·rw [if_pos c8] at H
     have c8b0 := decide_eq_true c8
     clear c8
     by_cases c9 : 0 ≤ x7_1
     ·rw [if_pos c9] at H
      have c9b0 := decide_eq_true c9
      clear c9
      by_cases c10 : x7_1 < (y253.length : Int)
      ·rw [if_pos c10] at H
       have c10b0 := decide_eq_true c10
       clear c10
       replace H := zM H
       obtain ⟨t257, A110, H⟩ := H
       try dsimp only at H
       have A11 := Aside0.mk A110
       clear A110
       replace H := zM H
       obtain ⟨⟨t258, t259, t260, t261⟩, A120, H⟩ := H
       try dsimp only at H
       have A12 := Aside0.mk A120
       clear A120
       replace H := zM H
       obtain ⟨⟨t262, t263⟩, A130, H⟩ := H
       try dsimp only at H
       have A13 := Aside0.mk A130
       clear A130
       have HC14 := Aside0.mk H
       clear H
       obtain ⟨Ao15, co15, eo15⟩ := Kd.R_slice HO_6.out
       subst eo15
       have p256 : 0 ≤ (x7_1 : Int) := of_decide_eq_true zA
       have q256 : x7_1 < (y253.length : Int) := of_decide_eq_true zA
       obtain ⟨ad256, e256, hx256_0⟩ := Kd.at_int (Kd.R_reads' HO_6.out).2.2 x7_1 p256 q256
       cases e256
       replace p256 := eq_true p256
       replace q256 := eq_true q256
       go_upto_region 12 with (first | ((with_reducible refine gate_callee (f := 33) rfl ?_); refine goesL_ (some 35) rfl rfl Tryz.func33 (by kernel_rfl) rfl #[.int .u64 (rd y253 x7_1)] rfl zL ?_; (with_reducible refine (impl_ShowNumber.calls k1 (rd y253 x7_1) t257 _ (hm.below zC) A11.out).mono ?_); rintro e w16 ⟨rfl, hb⟩; refine ⟨_, rfl, ?_⟩; replace HO_6 := Aside0.mk (Kd.R_below (zR HO_6.out) hb); replace HB := Aside0.mk (below_step zB hb); (try clear hb)) | ((with_reducible refine gate_callee (f := 20) rfl ?_); refine goesL_ (some 37) rfl rfl Tryz.func20 (by kernel_rfl) rfl #[.int .u64 (rd y253 x7_1)] rfl zL ?_; (with_reducible refine (spec_PartsOfNumber.calls k1 (rd y253 x7_1) t258 t259 t260 t261 _ A12.out).mono ?_); rintro e w17 ⟨rfl, hb⟩; refine ⟨_, rfl, ?_⟩; replace HO_6 := Aside0.mk (Kd.R_below (zR HO_6.out) hb); replace HB := Aside0.mk (below_step zB hb); (try clear hb)) | ((with_reducible refine gate_callee (f := 36) rfl ?_); refine goesL_ (some 41) rfl rfl Tryz.func36 (by kernel_rfl) rfl #[.string t257] rfl zL ?_; (with_reducible refine (impl_ReadNumber.calls k1 t257 t262 t263 _ (hm.below zC) A13.out).mono ?_); rintro e w18 ⟨rfl, hb⟩; refine ⟨_, rfl, ?_⟩; replace HO_6 := Aside0.mk (Kd.R_below (zR HO_6.out) hb); replace HB := Aside0.mk (below_step zB hb); (try clear hb)))
       (try simp only [Act.put, List.setIfInBounds_toArray, List.set_cons_zero, List.set_cons_succ])
       go_cut [74] (fun v74 wc => ∃ (kq : Nat) (x74_13 : Bool), v74 = .bool x74_13 ∧ Aside0 (laws_FnShows.j1 kq y253 x7_1 (rd y253 x7_1) t257 t258 x74_13 = some r) ∧ Aside0 (kq ≤ k1) ∧ Aside0 (Kd.R (Kd.int .u64) 24 wc w.heap.size (fun _ => True) (.slice (some ad256) y253.length co15) y253) ∧ Aside0 (Below w.heap.size w wc))
       case first =>
        have H := HC14.out
        clear HC14
        by_cases c19 : t258 = 1
        ·rw [if_pos c19] at H
         have c19b0 : (t258 == 1) = true := beq_iff_eq.mpr c19
         have c19b1 : (t258 != 1) = false := bne_eq_false_iff_eq.mpr c19
         clear c19
         (first | rw [c19b0] | (simp only [i64_w, i32_w]; rw [c19b0]) | skip)
         by_cases c20 : t257.toList = ([78, 97, 78] : List UInt8)
         ·rw [if_pos c20] at H
          have c20b0 : (t257.toList == ([78, 97, 78] : List UInt8)) = true := beq_iff_eq.mpr c20
          have c20b1 : (t257.toList != ([78, 97, 78] : List UInt8)) = false := bne_eq_false_iff_eq.mpr c20
          clear c20
          by_cases c21 : t258 = 2
          ·rw [if_pos c21] at H
           have c21b0 : (t258 == 2) = true := beq_iff_eq.mpr c21
           have c21b1 : (t258 != 2) = false := bne_eq_false_iff_eq.mpr c21
           clear c21
           by_cases c22 : t257.toList = ([73, 110, 102, 105, 110, 105, 116, 121] : List UInt8)
           ·rw [if_pos c22] at H
            have c22b0 : (t257.toList == ([73, 110, 102, 105, 110, 105, 116, 121] : List UInt8)) = true := beq_iff_eq.mpr c22
            have c22b1 : (t257.toList != ([73, 110, 102, 105, 110, 105, 116, 121] : List UInt8)) = false := bne_eq_false_iff_eq.mpr c22
            clear c22
            by_cases c23 : t258 = 4
            ·rw [if_pos c23] at H
             have c23b0 : (t258 == 4) = true := beq_iff_eq.mpr c23
             have c23b1 : (t258 != 4) = false := bne_eq_false_iff_eq.mpr c23
             clear c23
             by_cases c24 : t263 = true
             ·subst c24
              have H1 := H
              rw [if_pos rfl] at H1
              clear H
              have H := H1
              clear H1
              have H' := Aside0.mk H
              clear H
              go_wp2
              go_meet
              case rel => exact ⟨_, ((t262 != (rd y253 x7_1))), zE, H', ⟨by have := HK1.out; first | omega | exact Nat.le_refl _⟩, ⟨zR HO_6.out⟩, ⟨zB⟩⟩
             ·replace c24 := Bool.eq_false_iff.mpr c24
              subst c24
              have H1 := H
              rw [if_neg (show ¬ (false = true) by decide)] at H1
              clear H
              have H := H1
              clear H1
              have H' := Aside0.mk H
              clear H
              go_wp2
              go_meet
              case rel => exact ⟨_, (true), zE, H', ⟨by have := HK1.out; first | omega | exact Nat.le_refl _⟩, ⟨zR HO_6.out⟩, ⟨zB⟩⟩
            ·rw [if_neg c23] at H
             have c23b0 : (t258 == 4) = false := beq_eq_false_iff_ne.mpr c23
             have c23b1 : (t258 != 4) = true := bne_iff_ne.mpr c23
             by_cases c25 : t258 = 3
             ·rw [if_pos c25] at H
              have c25b0 : (t258 == 3) = true := beq_iff_eq.mpr c25
              have c25b1 : (t258 != 3) = false := bne_eq_false_iff_eq.mpr c25
              clear c25
              by_cases c26 : t263 = true
              ·subst c26
               have H1 := H
               rw [if_pos rfl] at H1
               clear H
               have H := H1
               clear H1
               have H' := Aside0.mk H
               clear H
               go_wp2
               go_meet
               case rel => exact ⟨_, ((t262 != (rd y253 x7_1))), zE, H', ⟨by have := HK1.out; first | omega | exact Nat.le_refl _⟩, ⟨zR HO_6.out⟩, ⟨zB⟩⟩
              ·replace c26 := Bool.eq_false_iff.mpr c26
               subst c26
               have H1 := H
               rw [if_neg (show ¬ (false = true) by decide)] at H1
               clear H
               have H := H1
               clear H1
               have H' := Aside0.mk H
               clear H
               go_wp2
               go_meet
               case rel => exact ⟨_, (true), zE, H', ⟨by have := HK1.out; first | omega | exact Nat.le_refl _⟩, ⟨zR HO_6.out⟩, ⟨zB⟩⟩
             ·rw [if_neg c25] at H
              have c25b0 : (t258 == 3) = false := beq_eq_false_iff_ne.mpr c25
              have c25b1 : (t258 != 3) = true := bne_iff_ne.mpr c25
              have H' := Aside0.mk H
              clear H
              go_wp2
              go_meet
              case rel => exact ⟨_, (false), zE, H', ⟨by have := HK1.out; first | omega | exact Nat.le_refl _⟩, ⟨zR HO_6.out⟩, ⟨zB⟩⟩
           ·rw [if_neg c22] at H
            have c22b0 : (t257.toList == ([73, 110, 102, 105, 110, 105, 116, 121] : List UInt8)) = false := beq_eq_false_iff_ne.mpr c22
            have c22b1 : (t257.toList != ([73, 110, 102, 105, 110, 105, 116, 121] : List UInt8)) = true := bne_iff_ne.mpr c22
            have H' := Aside0.mk H
            clear H
            go_wp2
            go_meet
            case rel => exact ⟨_, (true), zE, H', ⟨by have := HK1.out; first | omega | exact Nat.le_refl _⟩, ⟨zR HO_6.out⟩, ⟨zB⟩⟩
          ·rw [if_neg c21] at H
           have c21b0 : (t258 == 2) = false := beq_eq_false_iff_ne.mpr c21
           have c21b1 : (t258 != 2) = true := bne_iff_ne.mpr c21
           by_cases c27 : t258 = 4
           ·rw [if_pos c27] at H
            have c27b0 : (t258 == 4) = true := beq_iff_eq.mpr c27
            have c27b1 : (t258 != 4) = false := bne_eq_false_iff_eq.mpr c27
            clear c27
            by_cases c28 : t263 = true
            ·subst c28
             have H1 := H
             rw [if_pos rfl] at H1
             clear H
             have H := H1
             clear H1
             have H' := Aside0.mk H
             clear H
             go_wp2
             go_meet
             case rel => exact ⟨_, ((t262 != (rd y253 x7_1))), zE, H', ⟨by have := HK1.out; first | omega | exact Nat.le_refl _⟩, ⟨zR HO_6.out⟩, ⟨zB⟩⟩
            ·replace c28 := Bool.eq_false_iff.mpr c28
             subst c28
             have H1 := H
             rw [if_neg (show ¬ (false = true) by decide)] at H1
             clear H
             have H := H1
             clear H1
             have H' := Aside0.mk H
             clear H
             go_wp2
             go_meet
             case rel => exact ⟨_, (true), zE, H', ⟨by have := HK1.out; first | omega | exact Nat.le_refl _⟩, ⟨zR HO_6.out⟩, ⟨zB⟩⟩
           ·rw [if_neg c27] at H
            have c27b0 : (t258 == 4) = false := beq_eq_false_iff_ne.mpr c27
            have c27b1 : (t258 != 4) = true := bne_iff_ne.mpr c27
            by_cases c29 : t258 = 3
            ·rw [if_pos c29] at H
             have c29b0 : (t258 == 3) = true := beq_iff_eq.mpr c29
             have c29b1 : (t258 != 3) = false := bne_eq_false_iff_eq.mpr c29
             clear c29
             by_cases c30 : t263 = true
             ·subst c30
              have H1 := H
              rw [if_pos rfl] at H1
              clear H
              have H := H1
              clear H1
              have H' := Aside0.mk H
              clear H
              go_wp2
              go_meet
              case rel => exact ⟨_, ((t262 != (rd y253 x7_1))), zE, H', ⟨by have := HK1.out; first | omega | exact Nat.le_refl _⟩, ⟨zR HO_6.out⟩, ⟨zB⟩⟩
             ·replace c30 := Bool.eq_false_iff.mpr c30
              subst c30
              have H1 := H
              rw [if_neg (show ¬ (false = true) by decide)] at H1
              clear H
              have H := H1
              clear H1
              have H' := Aside0.mk H
              clear H
              go_wp2
              go_meet
              case rel => exact ⟨_, (true), zE, H', ⟨by have := HK1.out; first | omega | exact Nat.le_refl _⟩, ⟨zR HO_6.out⟩, ⟨zB⟩⟩
            ·rw [if_neg c29] at H
             have c29b0 : (t258 == 3) = false := beq_eq_false_iff_ne.mpr c29
             have c29b1 : (t258 != 3) = true := bne_iff_ne.mpr c29
             have H' := Aside0.mk H
             clear H
             go_wp2
             go_meet
             case rel => exact ⟨_, (false), zE, H', ⟨by have := HK1.out; first | omega | exact Nat.le_refl _⟩, ⟨zR HO_6.out⟩, ⟨zB⟩⟩
         ·rw [if_neg c20] at H
          have c20b0 : (t257.toList == ([78, 97, 78] : List UInt8)) = false := beq_eq_false_iff_ne.mpr c20
          have c20b1 : (t257.toList != ([78, 97, 78] : List UInt8)) = true := bne_iff_ne.mpr c20
          have H' := Aside0.mk H
          clear H
          go_wp2
          go_meet
          case rel => exact ⟨_, (true), zE, H', ⟨by have := HK1.out; first | omega | exact Nat.le_refl _⟩, ⟨zR HO_6.out⟩, ⟨zB⟩⟩
        ·rw [if_neg c19] at H
         have c19b0 : (t258 == 1) = false := beq_eq_false_iff_ne.mpr c19
         have c19b1 : (t258 != 1) = true := bne_iff_ne.mpr c19
         (first | rw [c19b0] | (simp only [i64_w, i32_w]; rw [c19b0]) | skip)
         by_cases c31 : t258 = 2
         ·rw [if_pos c31] at H
          have c31b0 : (t258 == 2) = true := beq_iff_eq.mpr c31
          have c31b1 : (t258 != 2) = false := bne_eq_false_iff_eq.mpr c31
          clear c31
          by_cases c32 : t257.toList = ([73, 110, 102, 105, 110, 105, 116, 121] : List UInt8)
          ·rw [if_pos c32] at H
           have c32b0 : (t257.toList == ([73, 110, 102, 105, 110, 105, 116, 121] : List UInt8)) = true := beq_iff_eq.mpr c32
           have c32b1 : (t257.toList != ([73, 110, 102, 105, 110, 105, 116, 121] : List UInt8)) = false := bne_eq_false_iff_eq.mpr c32
           clear c32
           by_cases c33 : t258 = 4
           ·rw [if_pos c33] at H
            have c33b0 : (t258 == 4) = true := beq_iff_eq.mpr c33
            have c33b1 : (t258 != 4) = false := bne_eq_false_iff_eq.mpr c33
            clear c33
            by_cases c34 : t263 = true
            ·subst c34
             have H1 := H
             rw [if_pos rfl] at H1
             clear H
             have H := H1
             clear H1
             have H' := Aside0.mk H
             clear H
             go_wp2
             go_meet
             case rel => exact ⟨_, ((t262 != (rd y253 x7_1))), zE, H', ⟨by have := HK1.out; first | omega | exact Nat.le_refl _⟩, ⟨zR HO_6.out⟩, ⟨zB⟩⟩
            ·replace c34 := Bool.eq_false_iff.mpr c34
             subst c34
             have H1 := H
             rw [if_neg (show ¬ (false = true) by decide)] at H1
             clear H
             have H := H1
             clear H1
             have H' := Aside0.mk H
             clear H
             go_wp2
             go_meet
             case rel => exact ⟨_, (true), zE, H', ⟨by have := HK1.out; first | omega | exact Nat.le_refl _⟩, ⟨zR HO_6.out⟩, ⟨zB⟩⟩
           ·rw [if_neg c33] at H
            have c33b0 : (t258 == 4) = false := beq_eq_false_iff_ne.mpr c33
            have c33b1 : (t258 != 4) = true := bne_iff_ne.mpr c33
            by_cases c35 : t258 = 3
            ·rw [if_pos c35] at H
             have c35b0 : (t258 == 3) = true := beq_iff_eq.mpr c35
             have c35b1 : (t258 != 3) = false := bne_eq_false_iff_eq.mpr c35
             clear c35
             by_cases c36 : t263 = true
             ·subst c36
              have H1 := H
              rw [if_pos rfl] at H1
              clear H
              have H := H1
              clear H1
              have H' := Aside0.mk H
              clear H
              go_wp2
              go_meet
              case rel => exact ⟨_, ((t262 != (rd y253 x7_1))), zE, H', ⟨by have := HK1.out; first | omega | exact Nat.le_refl _⟩, ⟨zR HO_6.out⟩, ⟨zB⟩⟩
             ·replace c36 := Bool.eq_false_iff.mpr c36
              subst c36
              have H1 := H
              rw [if_neg (show ¬ (false = true) by decide)] at H1
              clear H
              have H := H1
              clear H1
              have H' := Aside0.mk H
              clear H
              go_wp2
              go_meet
              case rel => exact ⟨_, (true), zE, H', ⟨by have := HK1.out; first | omega | exact Nat.le_refl _⟩, ⟨zR HO_6.out⟩, ⟨zB⟩⟩
            ·rw [if_neg c35] at H
             have c35b0 : (t258 == 3) = false := beq_eq_false_iff_ne.mpr c35
             have c35b1 : (t258 != 3) = true := bne_iff_ne.mpr c35
             have H' := Aside0.mk H
             clear H
             go_wp2
             go_meet
             case rel => exact ⟨_, (false), zE, H', ⟨by have := HK1.out; first | omega | exact Nat.le_refl _⟩, ⟨zR HO_6.out⟩, ⟨zB⟩⟩
          ·rw [if_neg c32] at H
           have c32b0 : (t257.toList == ([73, 110, 102, 105, 110, 105, 116, 121] : List UInt8)) = false := beq_eq_false_iff_ne.mpr c32
           have c32b1 : (t257.toList != ([73, 110, 102, 105, 110, 105, 116, 121] : List UInt8)) = true := bne_iff_ne.mpr c32
           have H' := Aside0.mk H
           clear H
           go_wp2
           go_meet
           case rel => exact ⟨_, (true), zE, H', ⟨by have := HK1.out; first | omega | exact Nat.le_refl _⟩, ⟨zR HO_6.out⟩, ⟨zB⟩⟩
         ·rw [if_neg c31] at H
          have c31b0 : (t258 == 2) = false := beq_eq_false_iff_ne.mpr c31
          have c31b1 : (t258 != 2) = true := bne_iff_ne.mpr c31
          by_cases c37 : t258 = 4
          ·rw [if_pos c37] at H
           have c37b0 : (t258 == 4) = true := beq_iff_eq.mpr c37
           have c37b1 : (t258 != 4) = false := bne_eq_false_iff_eq.mpr c37
           clear c37
           by_cases c38 : t263 = true
           ·subst c38
            have H1 := H
            rw [if_pos rfl] at H1
            clear H
            have H := H1
            clear H1
            have H' := Aside0.mk H
            clear H
            go_wp2
            go_meet
            case rel => exact ⟨_, ((t262 != (rd y253 x7_1))), zE, H', ⟨by have := HK1.out; first | omega | exact Nat.le_refl _⟩, ⟨zR HO_6.out⟩, ⟨zB⟩⟩
           ·replace c38 := Bool.eq_false_iff.mpr c38
            subst c38
            have H1 := H
            rw [if_neg (show ¬ (false = true) by decide)] at H1
            clear H
            have H := H1
            clear H1
            have H' := Aside0.mk H
            clear H
            go_wp2
            go_meet
            case rel => exact ⟨_, (true), zE, H', ⟨by have := HK1.out; first | omega | exact Nat.le_refl _⟩, ⟨zR HO_6.out⟩, ⟨zB⟩⟩
          ·rw [if_neg c37] at H
           have c37b0 : (t258 == 4) = false := beq_eq_false_iff_ne.mpr c37
           have c37b1 : (t258 != 4) = true := bne_iff_ne.mpr c37
           by_cases c39 : t258 = 3
           ·rw [if_pos c39] at H
            have c39b0 : (t258 == 3) = true := beq_iff_eq.mpr c39
            have c39b1 : (t258 != 3) = false := bne_eq_false_iff_eq.mpr c39
            clear c39
            by_cases c40 : t263 = true
            ·subst c40
             have H1 := H
             rw [if_pos rfl] at H1
             clear H
             have H := H1
             clear H1
             have H' := Aside0.mk H
             clear H
             go_wp2
             go_meet
             case rel => exact ⟨_, ((t262 != (rd y253 x7_1))), zE, H', ⟨by have := HK1.out; first | omega | exact Nat.le_refl _⟩, ⟨zR HO_6.out⟩, ⟨zB⟩⟩
            ·replace c40 := Bool.eq_false_iff.mpr c40
             subst c40
             have H1 := H
             rw [if_neg (show ¬ (false = true) by decide)] at H1
             clear H
             have H := H1
             clear H1
             have H' := Aside0.mk H
             clear H
             go_wp2
             go_meet
             case rel => exact ⟨_, (true), zE, H', ⟨by have := HK1.out; first | omega | exact Nat.le_refl _⟩, ⟨zR HO_6.out⟩, ⟨zB⟩⟩
           ·rw [if_neg c39] at H
            have c39b0 : (t258 == 3) = false := beq_eq_false_iff_ne.mpr c39
            have c39b1 : (t258 != 3) = true := bne_iff_ne.mpr c39
            have H' := Aside0.mk H
            clear H
            go_wp2
            go_meet
            case rel => exact ⟨_, (false), zE, H', ⟨by have := HK1.out; first | omega | exact Nat.le_refl _⟩, ⟨zR HO_6.out⟩, ⟨zB⟩⟩
       case rest =>
        clear HC14
        try clear hx2
        try clear hx25
        try clear hx256_0
        obtain ⟨kq, x74_13, rfl, HA, HJ13, HO_6, HB⟩ := hcut
        cases kq with
        | zero => exact absurd HA.out (by simp [laws_FnShows.j1])
        | succ kj13 =>
         have H := HA.out
         clear HA
         simp only [laws_FnShows.j1] at H
         by_cases c41 : x74_13 = true
         ·subst c41
          have H1 : (some false) = some r := by rw [if_pos rfl] at H; exact H
          clear H
          have H := H1
          clear H1
          obtain rfl := Option.some.inj H
          go_wp2
          go_ret
          exact ⟨zF, zB⟩
         ·replace c41 := Bool.eq_false_iff.mpr c41
          subst c41
          have H1 := H
          rw [if_neg (show ¬ (false = true) by decide)] at H1
          clear H
          have H := H1
          clear H1
          by_cases c42 : t258 = 4
          ·rw [if_pos c42] at H
           have c42b0 : (t258 == 4) = true := beq_iff_eq.mpr c42
           have c42b1 : (t258 != 4) = false := bne_eq_false_iff_eq.mpr c42
           clear c42
           replace H := zM H
           obtain ⟨t264, A430, H⟩ := H
           try dsimp only at H
           have A43 := Aside0.mk A430
           clear A430
           replace H := zM H
           obtain ⟨t265, A440, H⟩ := H
           try dsimp only at H
           have A44 := Aside0.mk A440
           clear A440
           by_cases c45 : 1 + t257.size ≤ 9223372036854775807
           ·rw [if_pos c45] at H
            have c45b0 := eq_true c45
            have c45b1 := decide_eq_true c45
            try have c45b2 : (9223372036854775807 < 1 + t257.size) = False := eq_false (Nat.not_lt.2 c45)
            by_cases c46 : t265.toList = ((⟨#[45]⟩ : ByteArray) ++ t257).toList
            ·rw [if_pos c46] at H
             have c46b0 : (t265.toList == ((⟨#[45]⟩ : ByteArray) ++ t257).toList) = true := beq_iff_eq.mpr c46
             have c46b1 : (t265.toList != ((⟨#[45]⟩ : ByteArray) ++ t257).toList) = false := bne_eq_false_iff_eq.mpr c46
             clear c46
             have H' := Aside0.mk H
             clear H
             go_wp2_with (first | (go_at_call 37; (with_reducible refine (spec_Negate.calls kj13 (rd y253 x7_1) t264 _ A43.out).mono ?_); rintro e w47 ⟨rfl, hb⟩; replace HO_6 := Aside0.mk (Kd.R_below (zR HO_6.out) hb); replace HB := Aside0.mk (below_step zB hb); (try clear hb)) | (go_at_call 33; (with_reducible refine (impl_ShowNumber.calls kj13 t264 t265 _ (hm.below zC) A44.out).mono ?_); rintro e w48 ⟨rfl, hb⟩; replace HO_6 := Aside0.mk (Kd.R_below (zR HO_6.out) hb); replace HB := Aside0.mk (below_step zB hb); (try clear hb)))
             go_roundg kj13
             case measure => have := HK1.out; have := HJ13.out; omega
             case rel => exact ⟨(wrap64 (x7_1 + 1)), zE, H', ⟨by have := HK1.out; have := HJ13.out; omega⟩, ⟨zR HO_6.out⟩, ⟨zB⟩⟩
            ·rw [if_neg c46] at H
             have c46b0 : (t265.toList == ((⟨#[45]⟩ : ByteArray) ++ t257).toList) = false := beq_eq_false_iff_ne.mpr c46
             have c46b1 : (t265.toList != ((⟨#[45]⟩ : ByteArray) ++ t257).toList) = true := bne_iff_ne.mpr c46
             obtain rfl := Option.some.inj H
             go_wp2_with (first | (go_at_call 37; (with_reducible refine (spec_Negate.calls kj13 (rd y253 x7_1) t264 _ A43.out).mono ?_); rintro e w49 ⟨rfl, hb⟩; replace HO_6 := Aside0.mk (Kd.R_below (zR HO_6.out) hb); replace HB := Aside0.mk (below_step zB hb); (try clear hb)) | (go_at_call 33; (with_reducible refine (impl_ShowNumber.calls kj13 t264 t265 _ (hm.below zC) A44.out).mono ?_); rintro e w50 ⟨rfl, hb⟩; replace HO_6 := Aside0.mk (Kd.R_below (zR HO_6.out) hb); replace HB := Aside0.mk (below_step zB hb); (try clear hb)))
             go_ret
             exact ⟨zF, zB⟩
           ·rw [if_neg c45] at H
            exact absurd H (by simp)
          ·rw [if_neg c42] at H
           have c42b0 : (t258 == 4) = false := beq_eq_false_iff_ne.mpr c42
           have c42b1 : (t258 != 4) = true := bne_iff_ne.mpr c42
           have H' := Aside0.mk H
           clear H
           go_wp2
           go_roundg kj13
           case measure => have := HK1.out; have := HJ13.out; omega
           case rel => exact ⟨(wrap64 (x7_1 + 1)), zE, H', ⟨by have := HK1.out; have := HJ13.out; omega⟩, ⟨zR HO_6.out⟩, ⟨zB⟩⟩
      ·rw [if_neg c10] at H
       exact absurd H (by simp)
     ·rw [if_neg c9] at H
      exact absurd H (by simp)
    ·rw [if_neg c8] at H
     have c8b0 := decide_eq_false c8
     clear c8
     obtain rfl := Option.some.inj H
     go_wp2
     go_ret
     exact ⟨zF, zB⟩

def laws_FnShows.Pure : Prop := ∀ (l0 : List Int), l0.length ≤ maxLen → l0.length * 1 ≤ 140737488351232 → (∀ x ∈ l0, (Lit.int .u8 x).wf = true) → ∃ k, laws_FnShows.f k l0 = some true
theorem laws_FnShows.walk (P : laws_FnShows.Pure) (a0 : Option Addr) (len0 cap0 : Nat) (z0 : List Int) (w : World) (hm : G.Homey w) (w0 : (a0 = none ∧ len0 = 0 ∧ cap0 = 0 ∧ z0 = []) ∨ ∃ x, a0 = some x ∧ len0 ≤ cap0 ∧ cap0 ≤ maxLen ∧ z0.length = cap0 ∧ (∀ i, i < z0.length → w.cell? (x.add i) = some (.int .u8 (z0.getD i 0))) ∧ ∀ n ∈ z0, (Lit.int .u8 n).wf = true) (y0 : len0 * 1 ≤ 140737488351232) :
  Calls Tryz.prog 10 #[.slice a0 len0 cap0] w fun e w' => e = .returned (.bool true) ∧ Below w.heap.size w w' := by
 obtain ⟨l0, rfl, hr0, hm0, hw0, hc0⟩ := ReadsInt.ofRowC w0
 obtain ⟨k, h⟩ := P l0 hm0 y0 hw0
 refine (laws_FnShows.calls k _ _ l0 true w hm (Kd.C_of_reads (d := (0 : Int)) (h1 := fun _ => rfl) hr0) hc0 h).mono ?_
 rintro e w' ⟨rfl, hd⟩
 exact ⟨rfl, hd⟩

end
end Go.Proofs.YtkjpelgdppmbjaaGreatDoor.MFnShows
