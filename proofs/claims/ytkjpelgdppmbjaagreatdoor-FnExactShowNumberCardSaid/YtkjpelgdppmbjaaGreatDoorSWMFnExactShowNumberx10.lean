-- by this session's own program mp.py over the kit's printer
import Derived.Test.YtkjpelgdppmbjaaGreatDoorSWZip
import Derived.Test.YtkjpelgdppmbjaaGreatDoorSWMFnExactShowNumberx0
import Derived.Test.YtkjpelgdppmbjaaGreatDoorSWMFnExactShowNumberx1
import Derived.Test.YtkjpelgdppmbjaaGreatDoorSWMFnExactShowNumberx8
import Derived.Test.YtkjpelgdppmbjaaGreatDoorSWMFnExactShowNumberx9
namespace Go.Proofs.YtkjpelgdppmbjaaGreatDoor.MFnExactShowNumber
open Go.RowKit YtkjpelgdppmbjaaGreatDoorW.PrintWords YtkjpelgdppmbjaaGreatDoorW.PrintLast YtkjpelgdppmbjaaGreatDoorW.PrintMore
set_option maxHeartbeats 8000000
set_option maxRecDepth 100000
attribute [local go_sem] max2_int min2_int max_two min_two max_three min_three max_four min_four
set_option linter.unusedVariables false
set_option linter.unusedSimpArgs false

mutual
def spec_ShowNumber.j0 : Nat → Int → ByteArray → Int → Bool → Int → Int → Option (ByteArray)
 | 0, _, _, _, _, _, _ => none
 | k + 1, x0, x4, x338000, x338001, x338002, x338003 => if x338000 = 1 then (some (⟨#[78, 97, 78]⟩ : ByteArray)) else (if x338000 = 2 then (if x4.size + 8 ≤ 9223372036854775807 then (some (x4 ++ (⟨#[73, 110, 102, 105, 110, 105, 116, 121]⟩ : ByteArray))) else (none)) else (if x338000 = 3 then (some (⟨#[48]⟩ : ByteArray)) else ((spec_Shortest.f k x0).bind fun bt338 => (if (bt338.1.size : Int) ≤ (wrap64 (bt338.2 + (bt338.1.size : Int))) then (spec_ShowNumber.j1 k x4 bt338.1 (bt338.1.size : Int) (wrap64 (bt338.2 + (bt338.1.size : Int))) (decide ((wrap64 (bt338.2 + (bt338.1.size : Int))) ≤ 21))) else (spec_ShowNumber.j1 k x4 bt338.1 (bt338.1.size : Int) (wrap64 (bt338.2 + (bt338.1.size : Int))) false)))))
def spec_ShowNumber.j3 : Nat → ByteArray → ByteArray → Int → Int → Option (ByteArray)
 | 0, _, _, _, _ => none
 | k + 1, x4, x5, x7, x8 => if 0 ≤ 1 then (if 1 ≤ (x5.size : Int) then (if x4.size + (x5.extract 0 1).size ≤ 9223372036854775807 then (if x7 > 1 then (if (x4 ++ (x5.extract 0 1)).size + 1 ≤ 9223372036854775807 then (if ((x4 ++ (x5.extract 0 1)) ++ (⟨#[46]⟩ : ByteArray)).size + (x5.extract 1 x5.size).size ≤ 9223372036854775807 then (spec_ShowNumber.j4 k x8 (((x4 ++ (x5.extract 0 1)) ++ (⟨#[46]⟩ : ByteArray)) ++ (x5.extract 1 x5.size))) else (none)) else (none)) else (spec_ShowNumber.j4 k x8 (x4 ++ (x5.extract 0 1)))) else (none)) else (none)) else (none)
def spec_ShowNumber.j4 : Nat → Int → ByteArray → Option (ByteArray)
 | 0, _, _ => none
 | k + 1, x8, x9 => if (wrap64 (x8 - 1)) < 0 then (if x9.size + 2 ≤ 9223372036854775807 then ((spec_Decimal.f k (wrap64 (1 - x8))).bind fun t342 => (if (x9 ++ (⟨#[101, 45]⟩ : ByteArray)).size + t342.size ≤ 9223372036854775807 then (some ((x9 ++ (⟨#[101, 45]⟩ : ByteArray)) ++ t342)) else (none))) else (none)) else (if x9.size + 2 ≤ 9223372036854775807 then ((spec_Decimal.f k (wrap64 (x8 - 1))).bind fun t343 => (if (x9 ++ (⟨#[101, 43]⟩ : ByteArray)).size + t343.size ≤ 9223372036854775807 then (some ((x9 ++ (⟨#[101, 43]⟩ : ByteArray)) ++ t343)) else (none))) else (none))
def spec_ShowNumber.j1 : Nat → ByteArray → ByteArray → Int → Int → Bool → Option (ByteArray)
 | 0, _, _, _, _, _ => none
 | k + 1, x4, x5, x7, x8, x34 => if x34 = true then (if x4.size + x5.size ≤ 9223372036854775807 then ((spec_l01Long.f k (wrap64 (x8 - x7)) 48).bind fun t340 => (if (x4 ++ x5).size + t340.size ≤ 9223372036854775807 then (some ((x4 ++ x5) ++ t340)) else (none))) else (none)) else (if 0 < x8 then (spec_ShowNumber.j2 k x4 x5 x7 x8 (decide (x8 ≤ 21))) else (spec_ShowNumber.j2 k x4 x5 x7 x8 false))
def spec_ShowNumber.j2 : Nat → ByteArray → ByteArray → Int → Int → Bool → Option (ByteArray)
 | 0, _, _, _, _, _ => none
 | k + 1, x4, x5, x7, x8, x50 => if x50 = true then (if 0 ≤ x8 then (if x8 ≤ (x5.size : Int) then (if x4.size + (x5.extract 0 (x8 : Int).toNat).size ≤ 9223372036854775807 then (if (x4 ++ (x5.extract 0 (x8 : Int).toNat)).size + 1 ≤ 9223372036854775807 then (if ((x4 ++ (x5.extract 0 (x8 : Int).toNat)) ++ (⟨#[46]⟩ : ByteArray)).size + (x5.extract (x8 : Int).toNat x5.size).size ≤ 9223372036854775807 then (some (((x4 ++ (x5.extract 0 (x8 : Int).toNat)) ++ (⟨#[46]⟩ : ByteArray)) ++ (x5.extract (x8 : Int).toNat x5.size))) else (none)) else (none)) else (none)) else (none)) else (none)) else (if (-6) < x8 then (if x8 ≤ 0 then (if x4.size + 2 ≤ 9223372036854775807 then ((spec_l01Long.f k (wrap64 (-x8)) 48).bind fun t341 => (if (x4 ++ (⟨#[48, 46]⟩ : ByteArray)).size + t341.size ≤ 9223372036854775807 then (if ((x4 ++ (⟨#[48, 46]⟩ : ByteArray)) ++ t341).size + x5.size ≤ 9223372036854775807 then (some (((x4 ++ (⟨#[48, 46]⟩ : ByteArray)) ++ t341) ++ x5)) else (none)) else (none))) else (none)) else (spec_ShowNumber.j3 k x4 x5 x7 x8)) else (spec_ShowNumber.j3 k x4 x5 x7 x8))
end
def spec_ShowNumber.f (k : Nat) (a0 : Int) : Option (ByteArray) := (spec_PartsOfNumber.f k a0).bind fun bt333 => (if bt333.2.1 = true then (spec_ShowNumber.j0 k a0 (⟨#[45]⟩ : ByteArray) bt333.1 bt333.2.1 bt333.2.2.1 bt333.2.2.2) else (spec_ShowNumber.j0 k a0 (⟨#[]⟩ : ByteArray) bt333.1 bt333.2.1 bt333.2.2.1 bt333.2.2.2))
theorem spec_ShowNumber.mono_l : ∀ k, (∀ y0 y1 y2 y3 y4 y5, LeO (spec_ShowNumber.j0 k y0 y1 y2 y3 y4 y5) (spec_ShowNumber.j0 (k + 1) y0 y1 y2 y3 y4 y5)) ∧ (∀ y0 y1 y2 y3, LeO (spec_ShowNumber.j3 k y0 y1 y2 y3) (spec_ShowNumber.j3 (k + 1) y0 y1 y2 y3)) ∧ (∀ y0 y1, LeO (spec_ShowNumber.j4 k y0 y1) (spec_ShowNumber.j4 (k + 1) y0 y1)) ∧ (∀ y0 y1 y2 y3 y4, LeO (spec_ShowNumber.j1 k y0 y1 y2 y3 y4) (spec_ShowNumber.j1 (k + 1) y0 y1 y2 y3 y4)) ∧ (∀ y0 y1 y2 y3 y4, LeO (spec_ShowNumber.j2 k y0 y1 y2 y3 y4) (spec_ShowNumber.j2 (k + 1) y0 y1 y2 y3 y4))
  | 0 => ⟨fun _ _ _ _ _ _ r h => by simp [spec_ShowNumber.j0] at h, fun _ _ _ _ r h => by simp [spec_ShowNumber.j3] at h, fun _ _ r h => by simp [spec_ShowNumber.j4] at h, fun _ _ _ _ _ r h => by simp [spec_ShowNumber.j1] at h, fun _ _ _ _ _ r h => by simp [spec_ShowNumber.j2] at h⟩
  | k + 1 => by
    obtain ⟨ih0, ih1, ih2, ih3, ih4⟩ := spec_ShowNumber.mono_l k
    refine ⟨?_, ?_, ?_, ?_, ?_⟩ <;> intros <;> (first | unfold spec_ShowNumber.j0 | unfold spec_ShowNumber.j3 | unfold spec_ShowNumber.j4 | unfold spec_ShowNumber.j1 | unfold spec_ShowNumber.j2) <;> with_reducible repeat' first
     | exact ih0 _ _ _ _ _ _
     | exact ih1 _ _ _ _
     | exact ih2 _ _
     | exact ih3 _ _ _ _ _
     | exact ih4 _ _ _ _ _
     | exact spec_Decimal.mono _ _
     | exact spec_PartsOfNumber.mono _ _
     | exact spec_Shortest.mono _ _
     | exact spec_l01Long.mono _ _ _
     | exact LeO.refl _
     | exact LeO.none _
     | refine LeO.ite ?_ ?_
     | refine LeO.bind ?_ (fun _ => ?_)
theorem spec_ShowNumber.mono : ∀ a0 k, LeO (spec_ShowNumber.f k a0) (spec_ShowNumber.f (k + 1) a0) := by
 intro a0 k
 obtain ⟨ih0, ih1, ih2, ih3, ih4⟩ := spec_ShowNumber.mono_l k
 unfold spec_ShowNumber.f
 with_reducible repeat' first
 | exact ih0 _ _ _ _ _ _
 | exact ih1 _ _ _ _
 | exact ih2 _ _
 | exact ih3 _ _ _ _ _
 | exact ih4 _ _ _ _ _
 | exact spec_Decimal.mono _ _
 | exact spec_PartsOfNumber.mono _ _
 | exact spec_Shortest.mono _ _
 | exact spec_l01Long.mono _ _ _
 | exact LeO.refl _
 | exact LeO.none _
 | refine LeO.ite ?_ ?_
 | refine LeO.bind ?_ (fun _ => ?_)
theorem spec_ShowNumber.calls (k : Nat) (a0 : Int) (r : ByteArray) (w : World) (h : spec_ShowNumber.f k a0 = some r) :
  Calls Tryz.prog 32 #[.int .u64 a0] w fun e w' => e = .returned (.string r) ∧ Below w.heap.size w w' := by
 have hu35 := Tryz.underlying35
 have HB := Aside0.mk (Below.refl w.heap.size w)
 have H : ((spec_PartsOfNumber.f k a0).bind fun bt333 => (if bt333.2.1 = true then (spec_ShowNumber.j0 k a0 (⟨#[45]⟩ : ByteArray) bt333.1 bt333.2.1 bt333.2.2.1 bt333.2.2.2) else (spec_ShowNumber.j0 k a0 (⟨#[]⟩ : ByteArray) bt333.1 bt333.2.1 bt333.2.2.1 bt333.2.2.2))) = some r := h
 clear h
 replace H := zM H
 obtain ⟨⟨t333, t334, t335, t336⟩, A20, H⟩ := H
 try dsimp only at H
 have A2 := Aside0.mk A20
 clear A20
 have HC3 := Aside0.mk H
 clear H
 go_enter Tryz.func32, Tryz.ntmps32
 go_upto_if 13 with (first | (go_at_call 20; (with_reducible refine (spec_PartsOfNumber.calls k a0 t333 t334 t335 t336 _ A2.out).mono ?_); rintro e w4 ⟨rfl, hb⟩; replace HB := Aside0.mk (below_step zB hb); (try clear hb)) | ((with_reducible refine gate_dst (N := 3) rfl ?_); refine box_event ?hg (N := 3) ?hd (cs := #[.int .i64 0, .bool false, .int .u64 0, .int .i64 0]) (t := 35) ?hr ?_; (case hd => rfl); (case hg => rfl); (case hr => first | (go_simp; done) | (go_simp; rfl)); intro gb337 hg w5 hbox hb; have n0_ := Aside0.mk (below_step zB hb); have n1_ := Aside0.mk (hbox); have n2_ := Aside0.mk ((by rw [hg]; exact (below_size zB) : w.heap.size ≤ gb337)); have n3_ := Aside0.mk ((by rw [hg]; exact (below_size zB) : w.heap.size ≤ gb337)); clear HB; have HB := n0_; have BK337 := n1_; have GW337 := n2_; have GE337 := n3_; clear n0_ n1_ n2_ n3_; clear hb hbox hg; have hcz6_0 : w5.cell? ⟨gb337, 0, none⟩ = some (.int .i64 0) := (blk_cell BK337.out 0).trans rfl; have hcz6_1 : w5.cell? ⟨gb337, 1, none⟩ = some (.bool false) := (blk_cell BK337.out 1).trans rfl; have hcz6_2 : w5.cell? ⟨gb337, 2, none⟩ = some (.int .u64 0) := (blk_cell BK337.out 2).trans rfl; have hcz6_3 : w5.cell? ⟨gb337, 3, none⟩ = some (.int .i64 0) := (blk_cell BK337.out 3).trans rfl; have hfz6_0 := blk_frozen BK337.out 0; have hfz6_1 := blk_frozen BK337.out 1; have hfz6_2 := blk_frozen BK337.out 2; have hfz6_3 := blk_frozen BK337.out 3))
 repeat (go_quiet (first | (go_at_call 20; (with_reducible refine (spec_PartsOfNumber.calls k a0 t333 t334 t335 t336 _ A2.out).mono ?_); rintro e w4 ⟨rfl, hb⟩; replace HB := Aside0.mk (below_step zB hb); (try clear hb)) | ((with_reducible refine gate_dst (N := 3) rfl ?_); refine box_event ?hg (N := 3) ?hd (cs := #[.int .i64 0, .bool false, .int .u64 0, .int .i64 0]) (t := 35) ?hr ?_; (case hd => rfl); (case hg => rfl); (case hr => first | (go_simp; done) | (go_simp; rfl)); intro gb337 hg w5 hbox hb; have n0_ := Aside0.mk (below_step zB hb); have n1_ := Aside0.mk (hbox); have n2_ := Aside0.mk ((by rw [hg]; exact (below_size zB) : w.heap.size ≤ gb337)); have n3_ := Aside0.mk ((by rw [hg]; exact (below_size zB) : w.heap.size ≤ gb337)); clear HB; have HB := n0_; have BK337 := n1_; have GW337 := n2_; have GE337 := n3_; clear n0_ n1_ n2_ n3_; clear hb hbox hg; have hcz6_0 : w5.cell? ⟨gb337, 0, none⟩ = some (.int .i64 0) := (blk_cell BK337.out 0).trans rfl; have hcz6_1 : w5.cell? ⟨gb337, 1, none⟩ = some (.bool false) := (blk_cell BK337.out 1).trans rfl; have hcz6_2 : w5.cell? ⟨gb337, 2, none⟩ = some (.int .u64 0) := (blk_cell BK337.out 2).trans rfl; have hcz6_3 : w5.cell? ⟨gb337, 3, none⟩ = some (.int .i64 0) := (blk_cell BK337.out 3).trans rfl; have hfz6_0 := blk_frozen BK337.out 0; have hfz6_1 := blk_frozen BK337.out 1; have hfz6_2 := blk_frozen BK337.out 2; have hfz6_3 := blk_frozen BK337.out 3)); go_upto_if 13 with (first | (go_at_call 20; (with_reducible refine (spec_PartsOfNumber.calls k a0 t333 t334 t335 t336 _ A2.out).mono ?_); rintro e w4 ⟨rfl, hb⟩; replace HB := Aside0.mk (below_step zB hb); (try clear hb)) | ((with_reducible refine gate_dst (N := 3) rfl ?_); refine box_event ?hg (N := 3) ?hd (cs := #[.int .i64 0, .bool false, .int .u64 0, .int .i64 0]) (t := 35) ?hr ?_; (case hd => rfl); (case hg => rfl); (case hr => first | (go_simp; done) | (go_simp; rfl)); intro gb337 hg w5 hbox hb; have n0_ := Aside0.mk (below_step zB hb); have n1_ := Aside0.mk (hbox); have n2_ := Aside0.mk ((by rw [hg]; exact (below_size zB) : w.heap.size ≤ gb337)); have n3_ := Aside0.mk ((by rw [hg]; exact (below_size zB) : w.heap.size ≤ gb337)); clear HB; have HB := n0_; have BK337 := n1_; have GW337 := n2_; have GE337 := n3_; clear n0_ n1_ n2_ n3_; clear hb hbox hg; have hcz6_0 : w5.cell? ⟨gb337, 0, none⟩ = some (.int .i64 0) := (blk_cell BK337.out 0).trans rfl; have hcz6_1 : w5.cell? ⟨gb337, 1, none⟩ = some (.bool false) := (blk_cell BK337.out 1).trans rfl; have hcz6_2 : w5.cell? ⟨gb337, 2, none⟩ = some (.int .u64 0) := (blk_cell BK337.out 2).trans rfl; have hcz6_3 : w5.cell? ⟨gb337, 3, none⟩ = some (.int .i64 0) := (blk_cell BK337.out 3).trans rfl; have hfz6_0 := blk_frozen BK337.out 0; have hfz6_1 := blk_frozen BK337.out 1; have hfz6_2 := blk_frozen BK337.out 2; have hfz6_3 := blk_frozen BK337.out 3)))
 (try simp only [Act.put, List.setIfInBounds_toArray, List.set_cons_zero, List.set_cons_succ])
 go_cut [4] (fun v4 wc => ∃ (kq : Nat) (x4_2 : ByteArray), v4 = .string x4_2 ∧ Aside0 (spec_ShowNumber.j0 kq a0 x4_2 t333 t334 t335 t336 = some r) ∧ Aside0 (kq ≤ k) ∧ Aside0 (wc.heap[gb337]? = some (.cells #[.int .i64 t333, .bool t334, .int .u64 t335, .int .i64 t336] 35 (0, 0))) ∧ Aside0 (Below w.heap.size w wc))
 case first =>
  have H := HC3.out
  clear HC3
  by_cases c7 : t334 = true
  ·subst c7
   have H1 := H
   rw [if_pos rfl] at H1
   clear H
   have H := H1
   clear H1
   have H' := Aside0.mk H
   clear H
   go_wp2
   repeat (go_quiet (fail); try go_wp2)
   go_meet
   case rel => exact ⟨_, ((⟨#[45]⟩ : ByteArray)), zE, H', ⟨by first | omega | exact Nat.le_refl _⟩, ⟨by (with_reducible repeat (first | refine blk_drewN ?_ _ | refine blk_drew ?_ | refine blk_alloc ?_ _)); refine blk_put (cs := #[.int .i64 t333, .bool true, .int .u64 t335, .int .i64 0]) ?_ 3 _ rfl; (with_reducible repeat (first | refine blk_drewN ?_ _ | refine blk_drew ?_ | refine blk_alloc ?_ _)); refine blk_put (cs := #[.int .i64 t333, .bool true, .int .u64 0, .int .i64 0]) ?_ 2 _ rfl; (with_reducible repeat (first | refine blk_drewN ?_ _ | refine blk_drew ?_ | refine blk_alloc ?_ _)); refine blk_put (cs := #[.int .i64 t333, .bool false, .int .u64 0, .int .i64 0]) ?_ 1 _ rfl; (with_reducible repeat (first | refine blk_drewN ?_ _ | refine blk_drew ?_ | refine blk_alloc ?_ _)); refine blk_put (cs := #[.int .i64 0, .bool false, .int .u64 0, .int .i64 0]) ?_ 0 _ rfl; (with_reducible repeat (first | refine blk_drewN ?_ _ | refine blk_drew ?_ | refine blk_alloc ?_ _)); exact BK337.out⟩, ⟨zB⟩⟩
  ·replace c7 := Bool.eq_false_iff.mpr c7
   subst c7
   have H1 := H
   rw [if_neg (show ¬ (false = true) by decide)] at H1
   clear H
   have H := H1
   clear H1
   have H' := Aside0.mk H
   clear H
   go_wp2
   repeat (go_quiet (fail); try go_wp2)
   go_meet
   case rel => exact ⟨_, ((⟨#[]⟩ : ByteArray)), zE, H', ⟨by first | omega | exact Nat.le_refl _⟩, ⟨by (with_reducible repeat (first | refine blk_drewN ?_ _ | refine blk_drew ?_ | refine blk_alloc ?_ _)); refine blk_put (cs := #[.int .i64 t333, .bool false, .int .u64 t335, .int .i64 0]) ?_ 3 _ rfl; (with_reducible repeat (first | refine blk_drewN ?_ _ | refine blk_drew ?_ | refine blk_alloc ?_ _)); refine blk_put (cs := #[.int .i64 t333, .bool false, .int .u64 0, .int .i64 0]) ?_ 2 _ rfl; (with_reducible repeat (first | refine blk_drewN ?_ _ | refine blk_drew ?_ | refine blk_alloc ?_ _)); refine blk_put (cs := #[.int .i64 t333, .bool false, .int .u64 0, .int .i64 0]) ?_ 1 _ rfl; (with_reducible repeat (first | refine blk_drewN ?_ _ | refine blk_drew ?_ | refine blk_alloc ?_ _)); refine blk_put (cs := #[.int .i64 0, .bool false, .int .u64 0, .int .i64 0]) ?_ 0 _ rfl; (with_reducible repeat (first | refine blk_drewN ?_ _ | refine blk_drew ?_ | refine blk_alloc ?_ _)); exact BK337.out⟩, ⟨zB⟩⟩
 case rest =>
  clear HC3
  obtain ⟨kq, x4_2, rfl, HA, HJ2, BK337, HB⟩ := hcut
  cases kq with
  | zero => exact absurd HA.out (by simp [spec_ShowNumber.j0])
  | succ kj2 =>
   have H := HA.out
   clear HA
   simp only [spec_ShowNumber.j0] at H
   by_cases c8 : t333 = 1
   ·rw [if_pos c8] at H
    have c8b0 : (t333 == 1) = true := beq_iff_eq.mpr c8
    have c8b1 : (t333 != 1) = false := bne_eq_false_iff_eq.mpr c8
    clear c8
    obtain rfl := Option.some.inj H
    have hcz9_0 : wc.cell? ⟨gb337, 0, none⟩ = some (.int .i64 t333) := (blk_cell BK337.out 0).trans rfl
    have hcz9_1 : wc.cell? ⟨gb337, 1, none⟩ = some (.bool t334) := (blk_cell BK337.out 1).trans rfl
    have hcz9_2 : wc.cell? ⟨gb337, 2, none⟩ = some (.int .u64 t335) := (blk_cell BK337.out 2).trans rfl
    have hcz9_3 : wc.cell? ⟨gb337, 3, none⟩ = some (.int .i64 t336) := (blk_cell BK337.out 3).trans rfl
    have hfz9_0 := blk_frozen BK337.out 0
    have hfz9_1 := blk_frozen BK337.out 1
    have hfz9_2 := blk_frozen BK337.out 2
    have hfz9_3 := blk_frozen BK337.out 3
    go_wp2
    repeat (go_quiet (fail); try go_wp2)
    go_ret
    exact ⟨zF, zB⟩
   ·rw [if_neg c8] at H
    have c8b0 : (t333 == 1) = false := beq_eq_false_iff_ne.mpr c8
    have c8b1 : (t333 != 1) = true := bne_iff_ne.mpr c8
    by_cases c10 : t333 = 2
    ·rw [if_pos c10] at H
     have c10b0 : (t333 == 2) = true := beq_iff_eq.mpr c10
     have c10b1 : (t333 != 2) = false := bne_eq_false_iff_eq.mpr c10
     clear c10
     by_cases c11 : x4_2.size + 8 ≤ 9223372036854775807
     ·rw [if_pos c11] at H
      have c11b0 := eq_true c11
      have c11b1 := decide_eq_true c11
      try have c11b2 : (9223372036854775807 < x4_2.size + 8) = False := eq_false (Nat.not_lt.2 c11)
      obtain rfl := Option.some.inj H
      have hcz12_0 : wc.cell? ⟨gb337, 0, none⟩ = some (.int .i64 t333) := (blk_cell BK337.out 0).trans rfl
      have hcz12_1 : wc.cell? ⟨gb337, 1, none⟩ = some (.bool t334) := (blk_cell BK337.out 1).trans rfl
      have hcz12_2 : wc.cell? ⟨gb337, 2, none⟩ = some (.int .u64 t335) := (blk_cell BK337.out 2).trans rfl
      have hcz12_3 : wc.cell? ⟨gb337, 3, none⟩ = some (.int .i64 t336) := (blk_cell BK337.out 3).trans rfl
      have hfz12_0 := blk_frozen BK337.out 0
      have hfz12_1 := blk_frozen BK337.out 1
      have hfz12_2 := blk_frozen BK337.out 2
      have hfz12_3 := blk_frozen BK337.out 3
      go_wp2
      repeat (go_quiet (fail); try go_wp2)
      go_ret
      exact ⟨zF, zB⟩
     ·rw [if_neg c11] at H
      exact absurd H (by simp)
    ·rw [if_neg c10] at H
     have c10b0 : (t333 == 2) = false := beq_eq_false_iff_ne.mpr c10
     have c10b1 : (t333 != 2) = true := bne_iff_ne.mpr c10
     by_cases c13 : t333 = 3
     ·rw [if_pos c13] at H
      have c13b0 : (t333 == 3) = true := beq_iff_eq.mpr c13
      have c13b1 : (t333 != 3) = false := bne_eq_false_iff_eq.mpr c13
      clear c13
      obtain rfl := Option.some.inj H
      have hcz14_0 : wc.cell? ⟨gb337, 0, none⟩ = some (.int .i64 t333) := (blk_cell BK337.out 0).trans rfl
      have hcz14_1 : wc.cell? ⟨gb337, 1, none⟩ = some (.bool t334) := (blk_cell BK337.out 1).trans rfl
      have hcz14_2 : wc.cell? ⟨gb337, 2, none⟩ = some (.int .u64 t335) := (blk_cell BK337.out 2).trans rfl
      have hcz14_3 : wc.cell? ⟨gb337, 3, none⟩ = some (.int .i64 t336) := (blk_cell BK337.out 3).trans rfl
      have hfz14_0 := blk_frozen BK337.out 0
      have hfz14_1 := blk_frozen BK337.out 1
      have hfz14_2 := blk_frozen BK337.out 2
      have hfz14_3 := blk_frozen BK337.out 3
      go_wp2
      repeat (go_quiet (fail); try go_wp2)
      go_ret
      exact ⟨zF, zB⟩
     ·rw [if_neg c13] at H
      have c13b0 : (t333 == 3) = false := beq_eq_false_iff_ne.mpr c13
      have c13b1 : (t333 != 3) = true := bne_iff_ne.mpr c13
      replace H := zM H
      obtain ⟨⟨t338, t339⟩, A150, H⟩ := H
      try dsimp only at H
      have A15 := Aside0.mk A150
      clear A150
      have HC16 := Aside0.mk H
      clear H
      have hcz17_0 : wc.cell? ⟨gb337, 0, none⟩ = some (.int .i64 t333) := (blk_cell BK337.out 0).trans rfl
      have hcz17_1 : wc.cell? ⟨gb337, 1, none⟩ = some (.bool t334) := (blk_cell BK337.out 1).trans rfl
      have hcz17_2 : wc.cell? ⟨gb337, 2, none⟩ = some (.int .u64 t335) := (blk_cell BK337.out 2).trans rfl
      have hcz17_3 : wc.cell? ⟨gb337, 3, none⟩ = some (.int .i64 t336) := (blk_cell BK337.out 3).trans rfl
      have hfz17_0 := blk_frozen BK337.out 0
      have hfz17_1 := blk_frozen BK337.out 1
      have hfz17_2 := blk_frozen BK337.out 2
      have hfz17_3 := blk_frozen BK337.out 3
      go_upto_block 1 with (first | (go_at_call 25; (with_reducible refine (spec_Shortest.calls kj2 a0 t338 t339 _ A15.out).mono ?_); rintro e w18 ⟨rfl, hb⟩; replace BK337 := Aside0.mk (blk_below (g := gb337) (o := .cells #[.int .i64 t333, .bool t334, .int .u64 t335, .int .i64 t336] 35 (0, 0)) (zK BK337.out) hb); replace HB := Aside0.mk (below_step zB hb); (try clear hb)))
      repeat (go_quiet (first | (go_at_call 25; (with_reducible refine (spec_Shortest.calls kj2 a0 t338 t339 _ A15.out).mono ?_); rintro e w18 ⟨rfl, hb⟩; replace BK337 := Aside0.mk (blk_below (g := gb337) (o := .cells #[.int .i64 t333, .bool t334, .int .u64 t335, .int .i64 t336] 35 (0, 0)) (zK BK337.out) hb); replace HB := Aside0.mk (below_step zB hb); (try clear hb))); go_upto_block 1 with (first | (go_at_call 25; (with_reducible refine (spec_Shortest.calls kj2 a0 t338 t339 _ A15.out).mono ?_); rintro e w18 ⟨rfl, hb⟩; replace BK337 := Aside0.mk (blk_below (g := gb337) (o := .cells #[.int .i64 t333, .bool t334, .int .u64 t335, .int .i64 t336] 35 (0, 0)) (zK BK337.out) hb); replace HB := Aside0.mk (below_step zB hb); (try clear hb))))
      (try simp only [Act.put, List.setIfInBounds_toArray, List.set_cons_zero, List.set_cons_succ])
      go_cut [] (fun wc => ∃ (kq : Nat), Aside0 (spec_ShowNumber.j3 kq x4_2 t338 (t338.size : Int) (wrap64 (t339 + (t338.size : Int))) = some r) ∧ Aside0 (kq ≤ kj2) ∧ Aside0 (wc.heap[gb337]? = some (.cells #[.int .i64 t333, .bool t334, .int .u64 t335, .int .i64 t336] 35 (0, 0))) ∧ Aside0 (Below w.heap.size w wc))
      case first =>
       have H := HC16.out
       clear HC16
       have HC19 := Aside0.mk H
       clear H
       go_upto_region 15 with (fail)
       repeat (go_quiet (fail); go_upto_region 15 with (fail))
       go_cut [34] (fun v34 wc => ∃ (kq : Nat) (x34_18 : Bool), v34 = .bool x34_18 ∧ Aside0 (spec_ShowNumber.j1 kq x4_2 t338 (t338.size : Int) (wrap64 (t339 + (t338.size : Int))) x34_18 = some r) ∧ Aside0 (kq ≤ kj2) ∧ Aside0 (wc.heap[gb337]? = some (.cells #[.int .i64 t333, .bool t334, .int .u64 t335, .int .i64 t336] 35 (0, 0))) ∧ Aside0 (Below w.heap.size w wc))
       case first =>
        have H := HC19.out
        clear HC19
        by_cases c20 : (t338.size : Int) ≤ (wrap64 (t339 + (t338.size : Int)))
        ·rw [if_pos c20] at H
         have c20b0 := decide_eq_true c20
         clear c20
         (first | rw [c20b0] | (simp only [i64_w, i32_w]; rw [c20b0]) | skip)
         have H' := Aside0.mk H
         clear H
         go_wp2
         repeat (go_quiet (fail); try go_wp2)
         go_meet
         case rel => exact ⟨_, (decide ((wrap64 (t339 + (t338.size : Int))) ≤ 21)), zE, H', ⟨by have := HJ2.out; first | omega | exact Nat.le_refl _⟩, ⟨zK BK337.out⟩, ⟨zB⟩⟩
        ·rw [if_neg c20] at H
         have c20b0 := decide_eq_false c20
         clear c20
         (first | rw [c20b0] | (simp only [i64_w, i32_w]; rw [c20b0]) | skip)
         have H' := Aside0.mk H
         clear H
         go_wp2
         repeat (go_quiet (fail); try go_wp2)
         go_meet
         case rel => exact ⟨_, (false), zE, H', ⟨by have := HJ2.out; first | omega | exact Nat.le_refl _⟩, ⟨zK BK337.out⟩, ⟨zB⟩⟩
       case rest =>
        clear HC19
        obtain ⟨kq, x34_18, rfl, HA, HJ18, BK337, HB⟩ := hcut
        cases kq with
        | zero => exact absurd HA.out (by simp [spec_ShowNumber.j1])
        | succ kj18 =>
         have H := HA.out
         clear HA
         simp only [spec_ShowNumber.j1] at H
         by_cases c21 : x34_18 = true
         ·subst c21
          have H1 := H
          rw [if_pos rfl] at H1
          clear H
          have H := H1
          clear H1
          by_cases c22 : x4_2.size + t338.size ≤ 9223372036854775807
          ·rw [if_pos c22] at H
           have c22b0 := eq_true c22
           have c22b1 := decide_eq_true c22
           try have c22b2 : (9223372036854775807 < x4_2.size + t338.size) = False := eq_false (Nat.not_lt.2 c22)
           replace H := zM H
           obtain ⟨t340, A230, H⟩ := H
           try dsimp only at H
           have A23 := Aside0.mk A230
           clear A230
           by_cases c24 : (x4_2 ++ t338).size + t340.size ≤ 9223372036854775807
           ·rw [if_pos c24] at H
            have c24b0 := eq_true c24
            have c24b1 := decide_eq_true c24
            try have c24b2 : (9223372036854775807 < (x4_2 ++ t338).size + t340.size) = False := eq_false (Nat.not_lt.2 c24)
            try (have c24s0 := c24b0; have c24s1 := c24b1; have c24s2 := c24b2; simp only [ByteArray.size_append] at c24s0 c24s1 c24s2)
            obtain rfl := Option.some.inj H
            go_wp2_with (first | (go_at_call 62; (with_reducible refine (spec_l01Long.calls kj18 (wrap64 ((wrap64 (t339 + (t338.size : Int))) - (t338.size : Int))) 48 t340 _ A23.out).mono ?_); rintro e w25 ⟨rfl, hb⟩; replace BK337 := Aside0.mk (blk_below (g := gb337) (o := .cells #[.int .i64 t333, .bool t334, .int .u64 t335, .int .i64 t336] 35 (0, 0)) (zK BK337.out) hb); replace HB := Aside0.mk (below_step zB hb); (try clear hb)))
            repeat (go_quiet (first | (go_at_call 62; (with_reducible refine (spec_l01Long.calls kj18 (wrap64 ((wrap64 (t339 + (t338.size : Int))) - (t338.size : Int))) 48 t340 _ A23.out).mono ?_); rintro e w25 ⟨rfl, hb⟩; replace BK337 := Aside0.mk (blk_below (g := gb337) (o := .cells #[.int .i64 t333, .bool t334, .int .u64 t335, .int .i64 t336] 35 (0, 0)) (zK BK337.out) hb); replace HB := Aside0.mk (below_step zB hb); (try clear hb))); try go_wp2_with (first | (go_at_call 62; (with_reducible refine (spec_l01Long.calls kj18 (wrap64 ((wrap64 (t339 + (t338.size : Int))) - (t338.size : Int))) 48 t340 _ A23.out).mono ?_); rintro e w25 ⟨rfl, hb⟩; replace BK337 := Aside0.mk (blk_below (g := gb337) (o := .cells #[.int .i64 t333, .bool t334, .int .u64 t335, .int .i64 t336] 35 (0, 0)) (zK BK337.out) hb); replace HB := Aside0.mk (below_step zB hb); (try clear hb))))
            go_ret
            exact ⟨zF, zB⟩
           ·rw [if_neg c24] at H
            exact absurd H (by simp)
          ·rw [if_neg c22] at H
           exact absurd H (by simp)
         ·replace c21 := Bool.eq_false_iff.mpr c21
          subst c21
          have H1 := H
          rw [if_neg (show ¬ (false = true) by decide)] at H1
          clear H
          have H := H1
          clear H1
          have HC26 := Aside0.mk H
          clear H
          go_upto_region 17 with (fail)
          repeat (go_quiet (fail); go_upto_region 17 with (fail))
          go_cut [50] (fun v50 wc => ∃ (kq : Nat) (x50_25 : Bool), v50 = .bool x50_25 ∧ Aside0 (spec_ShowNumber.j2 kq x4_2 t338 (t338.size : Int) (wrap64 (t339 + (t338.size : Int))) x50_25 = some r) ∧ Aside0 (kq ≤ kj18) ∧ Aside0 (wc.heap[gb337]? = some (.cells #[.int .i64 t333, .bool t334, .int .u64 t335, .int .i64 t336] 35 (0, 0))) ∧ Aside0 (Below w.heap.size w wc))
          case first =>
           have H := HC26.out
           clear HC26
           by_cases c27 : 0 < (wrap64 (t339 + (t338.size : Int)))
           ·rw [if_pos c27] at H
            have c27b0 := decide_eq_true c27
            clear c27
            (first | rw [c27b0] | (simp only [i64_w, i32_w]; rw [c27b0]) | skip)
            have H' := Aside0.mk H
            clear H
            go_wp2
            repeat (go_quiet (fail); try go_wp2)
            go_meet
            case rel => exact ⟨_, (decide ((wrap64 (t339 + (t338.size : Int))) ≤ 21)), zE, H', ⟨by have := HJ2.out; have := HJ18.out; first | omega | exact Nat.le_refl _⟩, ⟨zK BK337.out⟩, ⟨zB⟩⟩
           ·rw [if_neg c27] at H
            have c27b0 := decide_eq_false c27
            clear c27
            (first | rw [c27b0] | (simp only [i64_w, i32_w]; rw [c27b0]) | skip)
            have H' := Aside0.mk H
            clear H
            go_wp2
            repeat (go_quiet (fail); try go_wp2)
            go_meet
            case rel => exact ⟨_, (false), zE, H', ⟨by have := HJ2.out; have := HJ18.out; first | omega | exact Nat.le_refl _⟩, ⟨zK BK337.out⟩, ⟨zB⟩⟩
          case rest =>
           clear HC26
           obtain ⟨kq, x50_25, rfl, HA, HJ25, BK337, HB⟩ := hcut
           cases kq with
           | zero => exact absurd HA.out (by simp [spec_ShowNumber.j2])
           | succ kj25 =>
            have H := HA.out
            clear HA
            simp only [spec_ShowNumber.j2] at H
            by_cases c28 : x50_25 = true
            ·subst c28
             have H1 := H
             rw [if_pos rfl] at H1
             clear H
             have H := H1
             clear H1
             obtain ⟨ji29, hji29⟩ : ∃ j_ : Int, (wrap64 (t339 + (t338.size : Int))) = j_ := ⟨_, rfl⟩
             first | rw [hji29] at H | simp only [hji29] at H
             have hji29w : (IntKind.i64.wrap (t339 + (t338.size : Int))) = ji29 := (i64_w _).trans hji29
             by_cases c30 : 0 ≤ (ji29)
             ·rw [if_pos c30] at H
              have c30b0 := eq_true c30
              have c30b1 := decide_eq_true c30
              clear c30
              by_cases c31 : (ji29) ≤ (t338.size : Int)
              ·rw [if_pos c31] at H
               have c31b0 := eq_true c31
               have c31b1 := decide_eq_true c31
               clear c31
               by_cases c32 : x4_2.size + (t338.extract 0 ((ji29) : Int).toNat).size ≤ 9223372036854775807
               ·rw [if_pos c32] at H
                have c32b0 := eq_true c32
                have c32b1 := decide_eq_true c32
                try have c32b2 : (9223372036854775807 < x4_2.size + (t338.extract 0 ((ji29) : Int).toNat).size) = False := eq_false (Nat.not_lt.2 c32)
                try (have c32x0 := c32b0; have c32x1 := c32b1; have c32x2 := c32b2; simp only [ByteArray.size_append, ByteArray.size_extract, Nat.min_self, Nat.sub_zero] at c32x0 c32x1 c32x2)
                try (have hmin : min ((ji29) : Int).toNat t338.size = ((ji29) : Int).toNat := (by have h1 := of_decide_eq_true (by assumption : decide ((ji29) ≤ (t338.size : Int)) = true); omega); have c32y0 := c32x0; have c32y1 := c32x1; have c32y2 := c32x2; simp only [hmin] at c32y0 c32y1 c32y2)
                by_cases c33 : (x4_2 ++ (t338.extract 0 ((ji29) : Int).toNat)).size + 1 ≤ 9223372036854775807
                ·rw [if_pos c33] at H
                 have c33b0 := eq_true c33
                 have c33b1 := decide_eq_true c33
                 try have c33b2 : (9223372036854775807 < (x4_2 ++ (t338.extract 0 ((ji29) : Int).toNat)).size + 1) = False := eq_false (Nat.not_lt.2 c33)
                 try (have c33x0 := c33b0; have c33x1 := c33b1; have c33x2 := c33b2; simp only [ByteArray.size_append, ByteArray.size_extract, Nat.min_self, Nat.sub_zero] at c33x0 c33x1 c33x2)
                 try (have hmin : min ((ji29) : Int).toNat t338.size = ((ji29) : Int).toNat := (by have h1 := of_decide_eq_true (by assumption : decide ((ji29) ≤ (t338.size : Int)) = true); omega); have c33y0 := c33x0; have c33y1 := c33x1; have c33y2 := c33x2; simp only [hmin] at c33y0 c33y1 c33y2)
                 try (have c33s0 := c33b0; have c33s1 := c33b1; have c33s2 := c33b2; simp only [ByteArray.size_append] at c33s0 c33s1 c33s2)
                 have c34b0 := eq_true (of_decide_eq_true zA : 0 ≤ (ji29))
                 have c35b0 := eq_true (of_decide_eq_true zA : (ji29) ≤ (t338.size : Int))
                 by_cases c36 : ((x4_2 ++ (t338.extract 0 ((ji29) : Int).toNat)) ++ (⟨#[46]⟩ : ByteArray)).size + (t338.extract ((ji29) : Int).toNat t338.size).size ≤ 9223372036854775807
                 ·rw [if_pos c36] at H
                  have c36b0 := eq_true c36
                  have c36b1 := decide_eq_true c36
                  try have c36b2 : (9223372036854775807 < ((x4_2 ++ (t338.extract 0 ((ji29) : Int).toNat)) ++ (⟨#[46]⟩ : ByteArray)).size + (t338.extract ((ji29) : Int).toNat t338.size).size) = False := eq_false (Nat.not_lt.2 c36)
                  try (have c36x0 := c36b0; have c36x1 := c36b1; have c36x2 := c36b2; simp only [ByteArray.size_append, ByteArray.size_extract, Nat.min_self, Nat.sub_zero, show (⟨#[46]⟩ : ByteArray).size = 1 from rfl] at c36x0 c36x1 c36x2)
                  try (have hmin : min ((ji29) : Int).toNat t338.size = ((ji29) : Int).toNat := (by have h1 := of_decide_eq_true (by assumption : decide ((ji29) ≤ (t338.size : Int)) = true); omega); have c36y0 := c36x0; have c36y1 := c36x1; have c36y2 := c36x2; simp only [hmin] at c36y0 c36y1 c36y2)
                  try (have c36s0 := c36b0; have c36s1 := c36b1; have c36s2 := c36b2; simp only [ByteArray.size_append, show (⟨#[46]⟩ : ByteArray).size = 1 from rfl] at c36s0 c36s1 c36s2)
                  obtain rfl := Option.some.inj H
                  go_wp2
                  repeat (go_quiet (fail); try go_wp2)
                  go_ret
                  exact ⟨by first | rfl | (simp [errW_none, errW_some] <;> rfl) | (simp only [← hji29]; first | rfl | (simp [errW_none, errW_some] <;> rfl)) | (simp [*, errW_none, errW_some] <;> rfl), zB⟩
                 ·rw [if_neg c36] at H
                  exact absurd H (by simp)
                ·rw [if_neg c33] at H
                 exact absurd H (by simp)
               ·rw [if_neg c32] at H
                exact absurd H (by simp)
              ·rw [if_neg c31] at H
               exact absurd H (by simp)
             ·rw [if_neg c30] at H
              exact absurd H (by simp)
            ·replace c28 := Bool.eq_false_iff.mpr c28
             subst c28
             have H1 := H
             rw [if_neg (show ¬ (false = true) by decide)] at H1
             clear H
             have H := H1
             clear H1
             by_cases c37 : (-6) < (wrap64 (t339 + (t338.size : Int)))
             ·rw [if_pos c37] at H
              have c37b0 := decide_eq_true c37
              clear c37
              by_cases c38 : (wrap64 (t339 + (t338.size : Int))) ≤ 0
              ·rw [if_pos c38] at H
               have c38b0 := decide_eq_true c38
               clear c38
               by_cases c39 : x4_2.size + 2 ≤ 9223372036854775807
               ·rw [if_pos c39] at H
                have c39b0 := eq_true c39
                have c39b1 := decide_eq_true c39
                try have c39b2 : (9223372036854775807 < x4_2.size + 2) = False := eq_false (Nat.not_lt.2 c39)
                replace H := zM H
                obtain ⟨t341, A400, H⟩ := H
                try dsimp only at H
                have A40 := Aside0.mk A400
                clear A400
                by_cases c41 : (x4_2 ++ (⟨#[48, 46]⟩ : ByteArray)).size + t341.size ≤ 9223372036854775807
                ·rw [if_pos c41] at H
                 have c41b0 := eq_true c41
                 have c41b1 := decide_eq_true c41
                 try have c41b2 : (9223372036854775807 < (x4_2 ++ (⟨#[48, 46]⟩ : ByteArray)).size + t341.size) = False := eq_false (Nat.not_lt.2 c41)
                 try (have c41s0 := c41b0; have c41s1 := c41b1; have c41s2 := c41b2; simp only [ByteArray.size_append, show (⟨#[48, 46]⟩ : ByteArray).size = 2 from rfl] at c41s0 c41s1 c41s2)
                 by_cases c42 : ((x4_2 ++ (⟨#[48, 46]⟩ : ByteArray)) ++ t341).size + t338.size ≤ 9223372036854775807
                 ·rw [if_pos c42] at H
                  have c42b0 := eq_true c42
                  have c42b1 := decide_eq_true c42
                  try have c42b2 : (9223372036854775807 < ((x4_2 ++ (⟨#[48, 46]⟩ : ByteArray)) ++ t341).size + t338.size) = False := eq_false (Nat.not_lt.2 c42)
                  try (have c42s0 := c42b0; have c42s1 := c42b1; have c42s2 := c42b2; simp only [ByteArray.size_append, show (⟨#[48, 46]⟩ : ByteArray).size = 2 from rfl] at c42s0 c42s1 c42s2)
                  obtain rfl := Option.some.inj H
                  go_wp2_with (first | (go_at_call 62; (with_reducible refine (spec_l01Long.calls kj25 (wrap64 (-(wrap64 (t339 + (t338.size : Int))))) 48 t341 _ A40.out).mono ?_); rintro e w43 ⟨rfl, hb⟩; replace BK337 := Aside0.mk (blk_below (g := gb337) (o := .cells #[.int .i64 t333, .bool t334, .int .u64 t335, .int .i64 t336] 35 (0, 0)) (zK BK337.out) hb); replace HB := Aside0.mk (below_step zB hb); (try clear hb)))
                  repeat (go_quiet (first | (go_at_call 62; (with_reducible refine (spec_l01Long.calls kj25 (wrap64 (-(wrap64 (t339 + (t338.size : Int))))) 48 t341 _ A40.out).mono ?_); rintro e w43 ⟨rfl, hb⟩; replace BK337 := Aside0.mk (blk_below (g := gb337) (o := .cells #[.int .i64 t333, .bool t334, .int .u64 t335, .int .i64 t336] 35 (0, 0)) (zK BK337.out) hb); replace HB := Aside0.mk (below_step zB hb); (try clear hb))); try go_wp2_with (first | (go_at_call 62; (with_reducible refine (spec_l01Long.calls kj25 (wrap64 (-(wrap64 (t339 + (t338.size : Int))))) 48 t341 _ A40.out).mono ?_); rintro e w43 ⟨rfl, hb⟩; replace BK337 := Aside0.mk (blk_below (g := gb337) (o := .cells #[.int .i64 t333, .bool t334, .int .u64 t335, .int .i64 t336] 35 (0, 0)) (zK BK337.out) hb); replace HB := Aside0.mk (below_step zB hb); (try clear hb))))
                  go_ret
                  exact ⟨zF, zB⟩
                 ·rw [if_neg c42] at H
                  exact absurd H (by simp)
                ·rw [if_neg c41] at H
                 exact absurd H (by simp)
               ·rw [if_neg c39] at H
                exact absurd H (by simp)
              ·rw [if_neg c38] at H
               have c38b0 := decide_eq_false c38
               clear c38
               have H' := Aside0.mk H
               clear H
               go_wp2
               repeat (go_quiet (fail); try go_wp2)
               go_meet
               case rel => exact ⟨_, H', ⟨by have := HJ2.out; have := HJ18.out; have := HJ25.out; first | omega | exact Nat.le_refl _⟩, ⟨zK BK337.out⟩, ⟨zB⟩⟩
             ·rw [if_neg c37] at H
              have c37b0 := decide_eq_false c37
              clear c37
              have H' := Aside0.mk H
              clear H
              go_wp2
              repeat (go_quiet (fail); try go_wp2)
              go_meet
              case rel => exact ⟨_, H', ⟨by have := HJ2.out; have := HJ18.out; have := HJ25.out; first | omega | exact Nat.le_refl _⟩, ⟨zK BK337.out⟩, ⟨zB⟩⟩
      case rest =>
       clear HC16
       obtain ⟨kq, HA, HJ15, BK337, HB⟩ := hcut
       cases kq with
       | zero => exact absurd HA.out (by simp [spec_ShowNumber.j3])
       | succ kj15 =>
        have H := HA.out
        clear HA
        simp only [spec_ShowNumber.j3] at H
        by_cases c44 : 0 ≤ 1
        ·rw [if_pos c44] at H
         have c44b0 := eq_true c44
         have c44b1 := decide_eq_true c44
         clear c44
         by_cases c45 : 1 ≤ (t338.size : Int)
         ·rw [if_pos c45] at H
          have c45b0 := eq_true c45
          have c45b1 := decide_eq_true c45
          clear c45
          by_cases c46 : x4_2.size + (t338.extract 0 1).size ≤ 9223372036854775807
          ·rw [if_pos c46] at H
           have c46b0 := eq_true c46
           have c46b1 := decide_eq_true c46
           try have c46b2 : (9223372036854775807 < x4_2.size + (t338.extract 0 1).size) = False := eq_false (Nat.not_lt.2 c46)
           try (have c46x0 := c46b0; have c46x1 := c46b1; have c46x2 := c46b2; simp only [ByteArray.size_append, ByteArray.size_extract, Nat.min_self, Nat.sub_zero] at c46x0 c46x1 c46x2)
           have HC47 := Aside0.mk H
           clear H
           go_upto_if 87 with (fail)
           repeat (go_quiet (fail); go_upto_if 87 with (fail))
           go_cut [9] (fun v9 wc => ∃ (kq : Nat) (x9_46 : ByteArray), v9 = .string x9_46 ∧ Aside0 (spec_ShowNumber.j4 kq (wrap64 (t339 + (t338.size : Int))) x9_46 = some r) ∧ Aside0 (kq ≤ kj15) ∧ Aside0 (wc.heap[gb337]? = some (.cells #[.int .i64 t333, .bool t334, .int .u64 t335, .int .i64 t336] 35 (0, 0))) ∧ Aside0 (Below w.heap.size w wc))
           case first =>
            have H := HC47.out
            clear HC47
            by_cases c48 : (t338.size : Int) > 1
            ·rw [if_pos c48] at H
             have c48b0 : decide (1 < (t338.size : Int)) = true := decide_eq_true c48
             have c48b1 : decide (1 < t338.size) = true := decide_eq_true (by omega)
             clear c48
             (first | rw [c48b0] | (simp only [i64_w, i32_w]; rw [c48b0]) | skip)
             by_cases c49 : (x4_2 ++ (t338.extract 0 1)).size + 1 ≤ 9223372036854775807
             ·rw [if_pos c49] at H
              have c49b0 := eq_true c49
              have c49b1 := decide_eq_true c49
              try have c49b2 : (9223372036854775807 < (x4_2 ++ (t338.extract 0 1)).size + 1) = False := eq_false (Nat.not_lt.2 c49)
              try (have c49x0 := c49b0; have c49x1 := c49b1; have c49x2 := c49b2; simp only [ByteArray.size_append, ByteArray.size_extract, Nat.min_self, Nat.sub_zero] at c49x0 c49x1 c49x2)
              try (have c49s0 := c49b0; have c49s1 := c49b1; have c49s2 := c49b2; simp only [ByteArray.size_append] at c49s0 c49s1 c49s2)
              have c50b0 := eq_true (of_decide_eq_true zA : 1 ≤ (t338.size : Int))
              by_cases c51 : ((x4_2 ++ (t338.extract 0 1)) ++ (⟨#[46]⟩ : ByteArray)).size + (t338.extract 1 t338.size).size ≤ 9223372036854775807
              ·rw [if_pos c51] at H
               have c51b0 := eq_true c51
               have c51b1 := decide_eq_true c51
               try have c51b2 : (9223372036854775807 < ((x4_2 ++ (t338.extract 0 1)) ++ (⟨#[46]⟩ : ByteArray)).size + (t338.extract 1 t338.size).size) = False := eq_false (Nat.not_lt.2 c51)
               try (have c51x0 := c51b0; have c51x1 := c51b1; have c51x2 := c51b2; simp only [ByteArray.size_append, ByteArray.size_extract, Nat.min_self, Nat.sub_zero, show (⟨#[46]⟩ : ByteArray).size = 1 from rfl] at c51x0 c51x1 c51x2)
               try (have c51s0 := c51b0; have c51s1 := c51b1; have c51s2 := c51b2; simp only [ByteArray.size_append, show (⟨#[46]⟩ : ByteArray).size = 1 from rfl] at c51s0 c51s1 c51s2)
               have H' := Aside0.mk H
               clear H
               go_wp2
               repeat (go_quiet (fail); try go_wp2)
               go_meet
               case rel => exact ⟨_, (((x4_2 ++ (t338.extract 0 1)) ++ (⟨#[46]⟩ : ByteArray)) ++ (t338.extract 1 t338.size)), zE, H', ⟨by have := HJ2.out; have := HJ15.out; first | omega | exact Nat.le_refl _⟩, ⟨zK BK337.out⟩, ⟨zB⟩⟩
              ·rw [if_neg c51] at H
               exact absurd H (by simp)
             ·rw [if_neg c49] at H
              exact absurd H (by simp)
            ·rw [if_neg c48] at H
             have c48b0 : decide (1 < (t338.size : Int)) = false := decide_eq_false c48
             have c48b1 : decide (1 < t338.size) = false := decide_eq_false (by omega)
             clear c48
             (first | rw [c48b0] | (simp only [i64_w, i32_w]; rw [c48b0]) | skip)
             have H' := Aside0.mk H
             clear H
             go_wp2
             repeat (go_quiet (fail); try go_wp2)
             go_meet
             case rel => exact ⟨_, (x4_2 ++ (t338.extract 0 1)), zE, H', ⟨by have := HJ2.out; have := HJ15.out; first | omega | exact Nat.le_refl _⟩, ⟨zK BK337.out⟩, ⟨zB⟩⟩
           case rest =>
            clear HC47
            obtain ⟨kq, x9_46, rfl, HA, HJ46, BK337, HB⟩ := hcut
            cases kq with
            | zero => exact absurd HA.out (by simp [spec_ShowNumber.j4])
            | succ kj46 =>
             have H := HA.out
             clear HA
             simp only [spec_ShowNumber.j4] at H
             by_cases c52 : (wrap64 ((wrap64 (t339 + (t338.size : Int))) - 1)) < 0
             ·rw [if_pos c52] at H
              have c52b0 := decide_eq_true c52
              clear c52
              by_cases c53 : x9_46.size + 2 ≤ 9223372036854775807
              ·rw [if_pos c53] at H
               have c53b0 := eq_true c53
               have c53b1 := decide_eq_true c53
               try have c53b2 : (9223372036854775807 < x9_46.size + 2) = False := eq_false (Nat.not_lt.2 c53)
               replace H := zM H
               obtain ⟨t342, A540, H⟩ := H
               try dsimp only at H
               have A54 := Aside0.mk A540
               clear A540
               by_cases c55 : (x9_46 ++ (⟨#[101, 45]⟩ : ByteArray)).size + t342.size ≤ 9223372036854775807
               ·rw [if_pos c55] at H
                have c55b0 := eq_true c55
                have c55b1 := decide_eq_true c55
                try have c55b2 : (9223372036854775807 < (x9_46 ++ (⟨#[101, 45]⟩ : ByteArray)).size + t342.size) = False := eq_false (Nat.not_lt.2 c55)
                try (have c55s0 := c55b0; have c55s1 := c55b1; have c55s2 := c55b2; simp only [ByteArray.size_append, show (⟨#[101, 45]⟩ : ByteArray).size = 2 from rfl] at c55s0 c55s1 c55s2)
                obtain rfl := Option.some.inj H
                go_wp2_with (first | (go_at_call 22; (with_reducible refine (spec_Decimal.calls kj46 (wrap64 (1 - (wrap64 (t339 + (t338.size : Int))))) t342 _ A54.out).mono ?_); rintro e w56 ⟨rfl, hb⟩; replace BK337 := Aside0.mk (blk_below (g := gb337) (o := .cells #[.int .i64 t333, .bool t334, .int .u64 t335, .int .i64 t336] 35 (0, 0)) (zK BK337.out) hb); replace HB := Aside0.mk (below_step zB hb); (try clear hb)))
                repeat (go_quiet (first | (go_at_call 22; (with_reducible refine (spec_Decimal.calls kj46 (wrap64 (1 - (wrap64 (t339 + (t338.size : Int))))) t342 _ A54.out).mono ?_); rintro e w56 ⟨rfl, hb⟩; replace BK337 := Aside0.mk (blk_below (g := gb337) (o := .cells #[.int .i64 t333, .bool t334, .int .u64 t335, .int .i64 t336] 35 (0, 0)) (zK BK337.out) hb); replace HB := Aside0.mk (below_step zB hb); (try clear hb))); try go_wp2_with (first | (go_at_call 22; (with_reducible refine (spec_Decimal.calls kj46 (wrap64 (1 - (wrap64 (t339 + (t338.size : Int))))) t342 _ A54.out).mono ?_); rintro e w56 ⟨rfl, hb⟩; replace BK337 := Aside0.mk (blk_below (g := gb337) (o := .cells #[.int .i64 t333, .bool t334, .int .u64 t335, .int .i64 t336] 35 (0, 0)) (zK BK337.out) hb); replace HB := Aside0.mk (below_step zB hb); (try clear hb))))
                go_ret
                exact ⟨zF, zB⟩
               ·rw [if_neg c55] at H
                exact absurd H (by simp)
              ·rw [if_neg c53] at H
               exact absurd H (by simp)
             ·rw [if_neg c52] at H
              have c52b0 := decide_eq_false c52
              clear c52
              by_cases c57 : x9_46.size + 2 ≤ 9223372036854775807
              ·rw [if_pos c57] at H
               have c57b0 := eq_true c57
               have c57b1 := decide_eq_true c57
               try have c57b2 : (9223372036854775807 < x9_46.size + 2) = False := eq_false (Nat.not_lt.2 c57)
               replace H := zM H
               obtain ⟨t343, A580, H⟩ := H
               try dsimp only at H
               have A58 := Aside0.mk A580
               clear A580
               by_cases c59 : (x9_46 ++ (⟨#[101, 43]⟩ : ByteArray)).size + t343.size ≤ 9223372036854775807
               ·rw [if_pos c59] at H
                have c59b0 := eq_true c59
                have c59b1 := decide_eq_true c59
                try have c59b2 : (9223372036854775807 < (x9_46 ++ (⟨#[101, 43]⟩ : ByteArray)).size + t343.size) = False := eq_false (Nat.not_lt.2 c59)
                try (have c59s0 := c59b0; have c59s1 := c59b1; have c59s2 := c59b2; simp only [ByteArray.size_append, show (⟨#[101, 43]⟩ : ByteArray).size = 2 from rfl] at c59s0 c59s1 c59s2)
                obtain rfl := Option.some.inj H
                go_wp2_with (first | (go_at_call 22; (with_reducible refine (spec_Decimal.calls kj46 (wrap64 ((wrap64 (t339 + (t338.size : Int))) - 1)) t343 _ A58.out).mono ?_); rintro e w60 ⟨rfl, hb⟩; replace BK337 := Aside0.mk (blk_below (g := gb337) (o := .cells #[.int .i64 t333, .bool t334, .int .u64 t335, .int .i64 t336] 35 (0, 0)) (zK BK337.out) hb); replace HB := Aside0.mk (below_step zB hb); (try clear hb)))
                repeat (go_quiet (first | (go_at_call 22; (with_reducible refine (spec_Decimal.calls kj46 (wrap64 ((wrap64 (t339 + (t338.size : Int))) - 1)) t343 _ A58.out).mono ?_); rintro e w60 ⟨rfl, hb⟩; replace BK337 := Aside0.mk (blk_below (g := gb337) (o := .cells #[.int .i64 t333, .bool t334, .int .u64 t335, .int .i64 t336] 35 (0, 0)) (zK BK337.out) hb); replace HB := Aside0.mk (below_step zB hb); (try clear hb))); try go_wp2_with (first | (go_at_call 22; (with_reducible refine (spec_Decimal.calls kj46 (wrap64 ((wrap64 (t339 + (t338.size : Int))) - 1)) t343 _ A58.out).mono ?_); rintro e w60 ⟨rfl, hb⟩; replace BK337 := Aside0.mk (blk_below (g := gb337) (o := .cells #[.int .i64 t333, .bool t334, .int .u64 t335, .int .i64 t336] 35 (0, 0)) (zK BK337.out) hb); replace HB := Aside0.mk (below_step zB hb); (try clear hb))))
                go_ret
                exact ⟨zF, zB⟩
               ·rw [if_neg c59] at H
                exact absurd H (by simp)
              ·rw [if_neg c57] at H
               exact absurd H (by simp)
          ·rw [if_neg c46] at H
           exact absurd H (by simp)
         ·rw [if_neg c45] at H
          exact absurd H (by simp)
        ·rw [if_neg c44] at H
         exact absurd H (by simp)

end Go.Proofs.YtkjpelgdppmbjaaGreatDoor.MFnExactShowNumber
