-- by this session's own program mp.py over the kit's printer
import Derived.Test.YtkjpelgdppmbjaaGreatDoorSYZip
import Derived.Test.YtkjpelgdppmbjaaGreatDoorSYMFnShowsx0
import Derived.Test.YtkjpelgdppmbjaaGreatDoorSYMFnShowsx4
namespace Go.Proofs.YtkjpelgdppmbjaaGreatDoor.MFnShows
open Go.RowKit YtkjpelgdppmbjaaGreatDoorW.PrintWords YtkjpelgdppmbjaaGreatDoorW.PrintLast YtkjpelgdppmbjaaGreatDoorW.PrintMore
set_option maxHeartbeats 8000000
set_option maxRecDepth 100000
noncomputable section
attribute [local go_sem] max2_int min2_int max_two min_two max_three min_three max_four min_four
set_option linter.unusedVariables false
set_option linter.unusedSimpArgs false

mutual
def impl_ShowNumber.j0 : Nat → Int → ByteArray → Int → Bool → Int → Int → Option (ByteArray)
 | 0, _, _, _, _, _, _ => none
 | k + 1, x0, x4, x222000, x222001, x222002, x222003 => if x222000 = 1 then (some (⟨#[78, 97, 78]⟩ : ByteArray)) else (if x222000 = 2 then (if x4.size + 8 ≤ 9223372036854775807 then (some (x4 ++ (⟨#[73, 110, 102, 105, 110, 105, 116, 121]⟩ : ByteArray))) else (none)) else (if x222000 = 3 then (some (⟨#[48]⟩ : ByteArray)) else ((impl_Shortest.f k x0).bind fun bt222 => ((impl_within.f (wrap64 ((bt222.1.size : Int) + bt222.2)) (bt222.1.size : Int) 21).bind fun t224 => (if t224 = true then (if x4.size + bt222.1.size ≤ 9223372036854775807 then ((strings_Repeat.f (⟨#[48]⟩ : ByteArray) (wrap64 ((wrap64 ((bt222.1.size : Int) + bt222.2)) - (bt222.1.size : Int)))).bind fun t225 => (if (x4 ++ bt222.1).size + t225.size ≤ 9223372036854775807 then (some ((x4 ++ bt222.1) ++ t225)) else (none))) else (none)) else ((impl_within.f (wrap64 ((bt222.1.size : Int) + bt222.2)) 1 21).bind fun t226 => (if t226 = true then (if 0 ≤ (wrap64 ((bt222.1.size : Int) + bt222.2)) then (if (wrap64 ((bt222.1.size : Int) + bt222.2)) ≤ (bt222.1.size : Int) then (if x4.size + (bt222.1.extract 0 ((wrap64 ((bt222.1.size : Int) + bt222.2)) : Int).toNat).size ≤ 9223372036854775807 then (if (x4 ++ (bt222.1.extract 0 ((wrap64 ((bt222.1.size : Int) + bt222.2)) : Int).toNat)).size + 1 ≤ 9223372036854775807 then (if ((x4 ++ (bt222.1.extract 0 ((wrap64 ((bt222.1.size : Int) + bt222.2)) : Int).toNat)) ++ (⟨#[46]⟩ : ByteArray)).size + (bt222.1.extract ((wrap64 ((bt222.1.size : Int) + bt222.2)) : Int).toNat bt222.1.size).size ≤ 9223372036854775807 then (some (((x4 ++ (bt222.1.extract 0 ((wrap64 ((bt222.1.size : Int) + bt222.2)) : Int).toNat)) ++ (⟨#[46]⟩ : ByteArray)) ++ (bt222.1.extract ((wrap64 ((bt222.1.size : Int) + bt222.2)) : Int).toNat bt222.1.size))) else (none)) else (none)) else (none)) else (none)) else (none)) else ((impl_within.f (wrap64 ((bt222.1.size : Int) + bt222.2)) (-5) 0).bind fun t227 => (if t227 = true then (if x4.size + 2 ≤ 9223372036854775807 then ((strings_Repeat.f (⟨#[48]⟩ : ByteArray) (wrap64 (-(wrap64 ((bt222.1.size : Int) + bt222.2))))).bind fun t228 => (if (x4 ++ (⟨#[48, 46]⟩ : ByteArray)).size + t228.size ≤ 9223372036854775807 then (if ((x4 ++ (⟨#[48, 46]⟩ : ByteArray)) ++ t228).size + bt222.1.size ≤ 9223372036854775807 then (some (((x4 ++ (⟨#[48, 46]⟩ : ByteArray)) ++ t228) ++ bt222.1)) else (none)) else (none))) else (none)) else (if 0 ≤ 1 then (if 1 ≤ (bt222.1.size : Int) then (if x4.size + (bt222.1.extract 0 1).size ≤ 9223372036854775807 then (if (bt222.1.size : Int) > 1 then (if (x4 ++ (bt222.1.extract 0 1)).size + 1 ≤ 9223372036854775807 then (if ((x4 ++ (bt222.1.extract 0 1)) ++ (⟨#[46]⟩ : ByteArray)).size + (bt222.1.extract 1 bt222.1.size).size ≤ 9223372036854775807 then (impl_ShowNumber.j1 k (wrap64 ((bt222.1.size : Int) + bt222.2)) (((x4 ++ (bt222.1.extract 0 1)) ++ (⟨#[46]⟩ : ByteArray)) ++ (bt222.1.extract 1 bt222.1.size))) else (none)) else (none)) else (impl_ShowNumber.j1 k (wrap64 ((bt222.1.size : Int) + bt222.2)) (x4 ++ (bt222.1.extract 0 1)))) else (none)) else (none)) else (none)))))))))))
def impl_ShowNumber.j1 : Nat → Int → ByteArray → Option (ByteArray)
 | 0, _, _ => none
 | k + 1, x8, x9 => if (wrap64 (x8 - 1)) < 0 then (if x9.size + 2 ≤ 9223372036854775807 then ((impl_Decimal.f k (wrap64 (1 - x8))).bind fun t229 => (if (x9 ++ (⟨#[101, 45]⟩ : ByteArray)).size + t229.size ≤ 9223372036854775807 then (some ((x9 ++ (⟨#[101, 45]⟩ : ByteArray)) ++ t229)) else (none))) else (none)) else (if x9.size + 2 ≤ 9223372036854775807 then ((impl_Decimal.f k (wrap64 (x8 - 1))).bind fun t230 => (if (x9 ++ (⟨#[101, 43]⟩ : ByteArray)).size + t230.size ≤ 9223372036854775807 then (some ((x9 ++ (⟨#[101, 43]⟩ : ByteArray)) ++ t230)) else (none))) else (none))
end
def impl_ShowNumber.f (k : Nat) (a0 : Int) : Option (ByteArray) := (impl_PartsOfNumber.f k a0).bind fun bt217 => (if bt217.2.1 = true then (impl_ShowNumber.j0 k a0 (⟨#[45]⟩ : ByteArray) bt217.1 bt217.2.1 bt217.2.2.1 bt217.2.2.2) else (impl_ShowNumber.j0 k a0 (⟨#[]⟩ : ByteArray) bt217.1 bt217.2.1 bt217.2.2.1 bt217.2.2.2))
theorem impl_ShowNumber.mono_l : ∀ k, (∀ y0 y1 y2 y3 y4 y5, LeO (impl_ShowNumber.j0 k y0 y1 y2 y3 y4 y5) (impl_ShowNumber.j0 (k + 1) y0 y1 y2 y3 y4 y5)) ∧ (∀ y0 y1, LeO (impl_ShowNumber.j1 k y0 y1) (impl_ShowNumber.j1 (k + 1) y0 y1))
  | 0 => ⟨fun _ _ _ _ _ _ r h => by simp [impl_ShowNumber.j0] at h, fun _ _ r h => by simp [impl_ShowNumber.j1] at h⟩
  | k + 1 => by
    obtain ⟨ih0, ih1⟩ := impl_ShowNumber.mono_l k
    refine ⟨?_, ?_⟩ <;> intros <;> (first | unfold impl_ShowNumber.j0 | unfold impl_ShowNumber.j1) <;> with_reducible repeat' first
     | exact ih0 _ _ _ _ _ _
     | exact ih1 _ _
     | exact impl_Decimal.mono _ _
     | exact impl_PartsOfNumber.mono _ _
     | exact impl_Shortest.mono _ _
     | exact LeO.refl _
     | exact LeO.none _
     | refine LeO.ite ?_ ?_
     | refine LeO.bind ?_ (fun _ => ?_)
theorem impl_ShowNumber.mono : ∀ a0 k, LeO (impl_ShowNumber.f k a0) (impl_ShowNumber.f (k + 1) a0) := by
 intro a0 k
 obtain ⟨ih0, ih1⟩ := impl_ShowNumber.mono_l k
 unfold impl_ShowNumber.f
 with_reducible repeat' first
 | exact ih0 _ _ _ _ _ _
 | exact ih1 _ _
 | exact impl_Decimal.mono _ _
 | exact impl_PartsOfNumber.mono _ _
 | exact impl_Shortest.mono _ _
 | exact LeO.refl _
 | exact LeO.none _
 | refine LeO.ite ?_ ?_
 | refine LeO.bind ?_ (fun _ => ?_)
theorem impl_ShowNumber.calls (k : Nat) (a0 : Int) (r : ByteArray) (w : World) (hm : G.Homey w) (h : impl_ShowNumber.f k a0 = some r) :
  Calls Tryz.prog 33 #[.int .u64 a0] w fun e w' => e = .returned (.string r) ∧ Below w.heap.size w w' := by
 have hu35 := Tryz.underlying35
 have HB := Aside0.mk (Below.refl w.heap.size w)
 have H : ((impl_PartsOfNumber.f k a0).bind fun bt217 => (if bt217.2.1 = true then (impl_ShowNumber.j0 k a0 (⟨#[45]⟩ : ByteArray) bt217.1 bt217.2.1 bt217.2.2.1 bt217.2.2.2) else (impl_ShowNumber.j0 k a0 (⟨#[]⟩ : ByteArray) bt217.1 bt217.2.1 bt217.2.2.1 bt217.2.2.2))) = some r := h
 clear h
 replace H := zM H
 obtain ⟨⟨t217, t218, t219, t220⟩, A20, H⟩ := H
 try dsimp only at H
 have A2 := Aside0.mk A20
 clear A20
 have HC3 := Aside0.mk H
 clear H
 go_enter Tryz.func33, Tryz.ntmps33
 go_upto_if 13 with (first | (go_at_call 58; (with_reducible refine (impl_PartsOfNumber.calls k a0 t217 t218 t219 t220 _ A2.out).mono ?_); rintro e w4 ⟨rfl, hb⟩; replace HB := Aside0.mk (below_step zB hb); (try clear hb)) | ((with_reducible refine gate_dst (N := 3) rfl ?_); refine box_event ?hg (N := 3) ?hd (cs := #[.int .i64 0, .bool false, .int .u64 0, .int .i64 0]) (t := 35) ?hr ?_; (case hd => rfl); (case hg => rfl); (case hr => first | (go_simp; done) | (go_simp; rfl)); intro gb221 hg w5 hbox hb; have n0_ := Aside0.mk (below_step zB hb); have n1_ := Aside0.mk (hbox); have n2_ := Aside0.mk ((by rw [hg]; exact (below_size zB) : w.heap.size ≤ gb221)); have n3_ := Aside0.mk ((by rw [hg]; exact (below_size zB) : w.heap.size ≤ gb221)); clear HB; have HB := n0_; have BK221 := n1_; have GW221 := n2_; have GE221 := n3_; clear n0_ n1_ n2_ n3_; clear hb hbox hg; have hcz6_0 : w5.cell? ⟨gb221, 0, none⟩ = some (.int .i64 0) := (blk_cell BK221.out 0).trans rfl; have hcz6_1 : w5.cell? ⟨gb221, 1, none⟩ = some (.bool false) := (blk_cell BK221.out 1).trans rfl; have hcz6_2 : w5.cell? ⟨gb221, 2, none⟩ = some (.int .u64 0) := (blk_cell BK221.out 2).trans rfl; have hcz6_3 : w5.cell? ⟨gb221, 3, none⟩ = some (.int .i64 0) := (blk_cell BK221.out 3).trans rfl; have hfz6_0 := blk_frozen BK221.out 0; have hfz6_1 := blk_frozen BK221.out 1; have hfz6_2 := blk_frozen BK221.out 2; have hfz6_3 := blk_frozen BK221.out 3))
 repeat (go_quiet (first | (go_at_call 58; (with_reducible refine (impl_PartsOfNumber.calls k a0 t217 t218 t219 t220 _ A2.out).mono ?_); rintro e w4 ⟨rfl, hb⟩; replace HB := Aside0.mk (below_step zB hb); (try clear hb)) | ((with_reducible refine gate_dst (N := 3) rfl ?_); refine box_event ?hg (N := 3) ?hd (cs := #[.int .i64 0, .bool false, .int .u64 0, .int .i64 0]) (t := 35) ?hr ?_; (case hd => rfl); (case hg => rfl); (case hr => first | (go_simp; done) | (go_simp; rfl)); intro gb221 hg w5 hbox hb; have n0_ := Aside0.mk (below_step zB hb); have n1_ := Aside0.mk (hbox); have n2_ := Aside0.mk ((by rw [hg]; exact (below_size zB) : w.heap.size ≤ gb221)); have n3_ := Aside0.mk ((by rw [hg]; exact (below_size zB) : w.heap.size ≤ gb221)); clear HB; have HB := n0_; have BK221 := n1_; have GW221 := n2_; have GE221 := n3_; clear n0_ n1_ n2_ n3_; clear hb hbox hg; have hcz6_0 : w5.cell? ⟨gb221, 0, none⟩ = some (.int .i64 0) := (blk_cell BK221.out 0).trans rfl; have hcz6_1 : w5.cell? ⟨gb221, 1, none⟩ = some (.bool false) := (blk_cell BK221.out 1).trans rfl; have hcz6_2 : w5.cell? ⟨gb221, 2, none⟩ = some (.int .u64 0) := (blk_cell BK221.out 2).trans rfl; have hcz6_3 : w5.cell? ⟨gb221, 3, none⟩ = some (.int .i64 0) := (blk_cell BK221.out 3).trans rfl; have hfz6_0 := blk_frozen BK221.out 0; have hfz6_1 := blk_frozen BK221.out 1; have hfz6_2 := blk_frozen BK221.out 2; have hfz6_3 := blk_frozen BK221.out 3)); go_upto_if 13 with (first | (go_at_call 58; (with_reducible refine (impl_PartsOfNumber.calls k a0 t217 t218 t219 t220 _ A2.out).mono ?_); rintro e w4 ⟨rfl, hb⟩; replace HB := Aside0.mk (below_step zB hb); (try clear hb)) | ((with_reducible refine gate_dst (N := 3) rfl ?_); refine box_event ?hg (N := 3) ?hd (cs := #[.int .i64 0, .bool false, .int .u64 0, .int .i64 0]) (t := 35) ?hr ?_; (case hd => rfl); (case hg => rfl); (case hr => first | (go_simp; done) | (go_simp; rfl)); intro gb221 hg w5 hbox hb; have n0_ := Aside0.mk (below_step zB hb); have n1_ := Aside0.mk (hbox); have n2_ := Aside0.mk ((by rw [hg]; exact (below_size zB) : w.heap.size ≤ gb221)); have n3_ := Aside0.mk ((by rw [hg]; exact (below_size zB) : w.heap.size ≤ gb221)); clear HB; have HB := n0_; have BK221 := n1_; have GW221 := n2_; have GE221 := n3_; clear n0_ n1_ n2_ n3_; clear hb hbox hg; have hcz6_0 : w5.cell? ⟨gb221, 0, none⟩ = some (.int .i64 0) := (blk_cell BK221.out 0).trans rfl; have hcz6_1 : w5.cell? ⟨gb221, 1, none⟩ = some (.bool false) := (blk_cell BK221.out 1).trans rfl; have hcz6_2 : w5.cell? ⟨gb221, 2, none⟩ = some (.int .u64 0) := (blk_cell BK221.out 2).trans rfl; have hcz6_3 : w5.cell? ⟨gb221, 3, none⟩ = some (.int .i64 0) := (blk_cell BK221.out 3).trans rfl; have hfz6_0 := blk_frozen BK221.out 0; have hfz6_1 := blk_frozen BK221.out 1; have hfz6_2 := blk_frozen BK221.out 2; have hfz6_3 := blk_frozen BK221.out 3)))
 (try simp only [Act.put, List.setIfInBounds_toArray, List.set_cons_zero, List.set_cons_succ])
 go_cut [4] (fun v4 wc => ∃ (kq : Nat) (x4_2 : ByteArray), v4 = .string x4_2 ∧ Aside0 (impl_ShowNumber.j0 kq a0 x4_2 t217 t218 t219 t220 = some r) ∧ Aside0 (kq ≤ k) ∧ Aside0 (wc.heap[gb221]? = some (.cells #[.int .i64 t217, .bool t218, .int .u64 t219, .int .i64 t220] 35 (0, 0))) ∧ Aside0 (Below w.heap.size w wc))
 case first =>
  have H := HC3.out
  clear HC3
  by_cases c7 : t218 = true
  ·subst c7
   have H1 := H
   rw [if_pos rfl] at H1
   clear H
   have H := H1
   clear H1
   have H' := Aside0.mk H
   clear H
   go_wp2
   repeat (go_quiet (fail); try go_wp2)
   go_meet
   case rel => exact ⟨_, ((⟨#[45]⟩ : ByteArray)), zE, H', ⟨by first | omega | exact Nat.le_refl _⟩, ⟨by (with_reducible repeat (first | refine blk_drewN ?_ _ | refine blk_drew ?_ | refine blk_alloc ?_ _)); refine blk_put (cs := #[.int .i64 t217, .bool true, .int .u64 t219, .int .i64 0]) ?_ 3 _ rfl; (with_reducible repeat (first | refine blk_drewN ?_ _ | refine blk_drew ?_ | refine blk_alloc ?_ _)); refine blk_put (cs := #[.int .i64 t217, .bool true, .int .u64 0, .int .i64 0]) ?_ 2 _ rfl; (with_reducible repeat (first | refine blk_drewN ?_ _ | refine blk_drew ?_ | refine blk_alloc ?_ _)); refine blk_put (cs := #[.int .i64 t217, .bool false, .int .u64 0, .int .i64 0]) ?_ 1 _ rfl; (with_reducible repeat (first | refine blk_drewN ?_ _ | refine blk_drew ?_ | refine blk_alloc ?_ _)); refine blk_put (cs := #[.int .i64 0, .bool false, .int .u64 0, .int .i64 0]) ?_ 0 _ rfl; (with_reducible repeat (first | refine blk_drewN ?_ _ | refine blk_drew ?_ | refine blk_alloc ?_ _)); exact BK221.out⟩, ⟨zB⟩⟩
  ·replace c7 := Bool.eq_false_iff.mpr c7
   subst c7
   have H1 := H
   rw [if_neg (show ¬ (false = true) by decide)] at H1
   clear H
   have H := H1
   clear H1
   have H' := Aside0.mk H
   clear H
   go_wp2
   repeat (go_quiet (fail); try go_wp2)
   go_meet
   case rel => exact ⟨_, ((⟨#[]⟩ : ByteArray)), zE, H', ⟨by first | omega | exact Nat.le_refl _⟩, ⟨by (with_reducible repeat (first | refine blk_drewN ?_ _ | refine blk_drew ?_ | refine blk_alloc ?_ _)); refine blk_put (cs := #[.int .i64 t217, .bool false, .int .u64 t219, .int .i64 0]) ?_ 3 _ rfl; (with_reducible repeat (first | refine blk_drewN ?_ _ | refine blk_drew ?_ | refine blk_alloc ?_ _)); refine blk_put (cs := #[.int .i64 t217, .bool false, .int .u64 0, .int .i64 0]) ?_ 2 _ rfl; (with_reducible repeat (first | refine blk_drewN ?_ _ | refine blk_drew ?_ | refine blk_alloc ?_ _)); refine blk_put (cs := #[.int .i64 t217, .bool false, .int .u64 0, .int .i64 0]) ?_ 1 _ rfl; (with_reducible repeat (first | refine blk_drewN ?_ _ | refine blk_drew ?_ | refine blk_alloc ?_ _)); refine blk_put (cs := #[.int .i64 0, .bool false, .int .u64 0, .int .i64 0]) ?_ 0 _ rfl; (with_reducible repeat (first | refine blk_drewN ?_ _ | refine blk_drew ?_ | refine blk_alloc ?_ _)); exact BK221.out⟩, ⟨zB⟩⟩
 case rest =>
  clear HC3
  obtain ⟨kq, x4_2, rfl, HA, HJ2, BK221, HB⟩ := hcut
  cases kq with
  | zero => exact absurd HA.out (by simp [impl_ShowNumber.j0])
  | succ kj2 =>
   have H := HA.out
   clear HA
   simp only [impl_ShowNumber.j0] at H
   by_cases c8 : t217 = 1
   ·rw [if_pos c8] at H
    have c8b0 : (t217 == 1) = true := beq_iff_eq.mpr c8
    have c8b1 : (t217 != 1) = false := bne_eq_false_iff_eq.mpr c8
    clear c8
    obtain rfl := Option.some.inj H
    have hcz9_0 : wc.cell? ⟨gb221, 0, none⟩ = some (.int .i64 t217) := (blk_cell BK221.out 0).trans rfl
    have hcz9_1 : wc.cell? ⟨gb221, 1, none⟩ = some (.bool t218) := (blk_cell BK221.out 1).trans rfl
    have hcz9_2 : wc.cell? ⟨gb221, 2, none⟩ = some (.int .u64 t219) := (blk_cell BK221.out 2).trans rfl
    have hcz9_3 : wc.cell? ⟨gb221, 3, none⟩ = some (.int .i64 t220) := (blk_cell BK221.out 3).trans rfl
    have hfz9_0 := blk_frozen BK221.out 0
    have hfz9_1 := blk_frozen BK221.out 1
    have hfz9_2 := blk_frozen BK221.out 2
    have hfz9_3 := blk_frozen BK221.out 3
    go_wp2
    repeat (go_quiet (fail); try go_wp2)
    go_ret
    exact ⟨zF, zB⟩
   ·rw [if_neg c8] at H
    have c8b0 : (t217 == 1) = false := beq_eq_false_iff_ne.mpr c8
    have c8b1 : (t217 != 1) = true := bne_iff_ne.mpr c8
    by_cases c10 : t217 = 2
    ·rw [if_pos c10] at H
     have c10b0 : (t217 == 2) = true := beq_iff_eq.mpr c10
     have c10b1 : (t217 != 2) = false := bne_eq_false_iff_eq.mpr c10
     clear c10
     by_cases c11 : x4_2.size + 8 ≤ 9223372036854775807
     ·rw [if_pos c11] at H
      have c11b0 := eq_true c11
      have c11b1 := decide_eq_true c11
      try have c11b2 : (9223372036854775807 < x4_2.size + 8) = False := eq_false (Nat.not_lt.2 c11)
      obtain rfl := Option.some.inj H
      have hcz12_0 : wc.cell? ⟨gb221, 0, none⟩ = some (.int .i64 t217) := (blk_cell BK221.out 0).trans rfl
      have hcz12_1 : wc.cell? ⟨gb221, 1, none⟩ = some (.bool t218) := (blk_cell BK221.out 1).trans rfl
      have hcz12_2 : wc.cell? ⟨gb221, 2, none⟩ = some (.int .u64 t219) := (blk_cell BK221.out 2).trans rfl
      have hcz12_3 : wc.cell? ⟨gb221, 3, none⟩ = some (.int .i64 t220) := (blk_cell BK221.out 3).trans rfl
      have hfz12_0 := blk_frozen BK221.out 0
      have hfz12_1 := blk_frozen BK221.out 1
      have hfz12_2 := blk_frozen BK221.out 2
      have hfz12_3 := blk_frozen BK221.out 3
      go_wp2
      repeat (go_quiet (fail); try go_wp2)
      go_ret
      exact ⟨zF, zB⟩
     ·rw [if_neg c11] at H
      exact absurd H (by simp)
    ·rw [if_neg c10] at H
     have c10b0 : (t217 == 2) = false := beq_eq_false_iff_ne.mpr c10
     have c10b1 : (t217 != 2) = true := bne_iff_ne.mpr c10
     by_cases c13 : t217 = 3
     ·rw [if_pos c13] at H
      have c13b0 : (t217 == 3) = true := beq_iff_eq.mpr c13
      have c13b1 : (t217 != 3) = false := bne_eq_false_iff_eq.mpr c13
      clear c13
      obtain rfl := Option.some.inj H
      have hcz14_0 : wc.cell? ⟨gb221, 0, none⟩ = some (.int .i64 t217) := (blk_cell BK221.out 0).trans rfl
      have hcz14_1 : wc.cell? ⟨gb221, 1, none⟩ = some (.bool t218) := (blk_cell BK221.out 1).trans rfl
      have hcz14_2 : wc.cell? ⟨gb221, 2, none⟩ = some (.int .u64 t219) := (blk_cell BK221.out 2).trans rfl
      have hcz14_3 : wc.cell? ⟨gb221, 3, none⟩ = some (.int .i64 t220) := (blk_cell BK221.out 3).trans rfl
      have hfz14_0 := blk_frozen BK221.out 0
      have hfz14_1 := blk_frozen BK221.out 1
      have hfz14_2 := blk_frozen BK221.out 2
      have hfz14_3 := blk_frozen BK221.out 3
      go_wp2
      repeat (go_quiet (fail); try go_wp2)
      go_ret
      exact ⟨zF, zB⟩
     ·rw [if_neg c13] at H
      have c13b0 : (t217 == 3) = false := beq_eq_false_iff_ne.mpr c13
      have c13b1 : (t217 != 3) = true := bne_iff_ne.mpr c13
      replace H := zM H
      obtain ⟨⟨t222, t223⟩, A150, H⟩ := H
      try dsimp only at H
      have A15 := Aside0.mk A150
      clear A150
      replace H := zM H
      obtain ⟨t224, A160, H⟩ := H
      try dsimp only at H
      have A16 := Aside0.mk A160
      clear A160
      by_cases c17 : t224 = true
      ·subst c17
       have H1 := H
       rw [if_pos rfl] at H1
       clear H
       have H := H1
       clear H1
       by_cases c18 : x4_2.size + t222.size ≤ 9223372036854775807
       ·rw [if_pos c18] at H
        have c18b0 := eq_true c18
        have c18b1 := decide_eq_true c18
        try have c18b2 : (9223372036854775807 < x4_2.size + t222.size) = False := eq_false (Nat.not_lt.2 c18)
        replace H := zM H
        obtain ⟨t225, A190, H⟩ := H
        try dsimp only at H
        have A19 := Aside0.mk A190
        clear A190
        by_cases c20 : (x4_2 ++ t222).size + t225.size ≤ 9223372036854775807
        ·rw [if_pos c20] at H
         have c20b0 := eq_true c20
         have c20b1 := decide_eq_true c20
         try have c20b2 : (9223372036854775807 < (x4_2 ++ t222).size + t225.size) = False := eq_false (Nat.not_lt.2 c20)
         try (have c20s0 := c20b0; have c20s1 := c20b1; have c20s2 := c20b2; simp only [ByteArray.size_append] at c20s0 c20s1 c20s2)
         obtain rfl := Option.some.inj H
         have hcz21_0 : wc.cell? ⟨gb221, 0, none⟩ = some (.int .i64 t217) := (blk_cell BK221.out 0).trans rfl
         have hcz21_1 : wc.cell? ⟨gb221, 1, none⟩ = some (.bool t218) := (blk_cell BK221.out 1).trans rfl
         have hcz21_2 : wc.cell? ⟨gb221, 2, none⟩ = some (.int .u64 t219) := (blk_cell BK221.out 2).trans rfl
         have hcz21_3 : wc.cell? ⟨gb221, 3, none⟩ = some (.int .i64 t220) := (blk_cell BK221.out 3).trans rfl
         have hfz21_0 := blk_frozen BK221.out 0
         have hfz21_1 := blk_frozen BK221.out 1
         have hfz21_2 := blk_frozen BK221.out 2
         have hfz21_3 := blk_frozen BK221.out 3
         go_wp2_with (first | (go_at_call 26; (with_reducible refine (impl_Shortest.calls kj2 a0 t222 t223 _ (hm.below zC) A15.out).mono ?_); rintro e w22 ⟨rfl, hb⟩; replace BK221 := Aside0.mk (blk_below (g := gb221) (o := .cells #[.int .i64 t217, .bool t218, .int .u64 t219, .int .i64 t220] 35 (0, 0)) (zK BK221.out) hb); replace HB := Aside0.mk (below_step zB hb); (try clear hb)) | (go_at_call 44; (with_reducible refine (impl_within.calls (wrap64 ((t222.size : Int) + t223)) (t222.size : Int) 21 true _ A16.out).mono ?_); rintro e w' ⟨rfl, ⟨nd, rfl⟩⟩; (try exact zD)) | (go_at_call 68; (with_reducible refine (strings_Repeat.calls (⟨#[48]⟩ : ByteArray) (wrap64 ((wrap64 ((t222.size : Int) + t223)) - (t222.size : Int))) t225 _ A19.out).mono ?_); rintro e w23 ⟨rfl, hb⟩; replace BK221 := Aside0.mk (blk_below (g := gb221) (o := .cells #[.int .i64 t217, .bool t218, .int .u64 t219, .int .i64 t220] 35 (0, 0)) (zK BK221.out) hb); replace HB := Aside0.mk (below_step zB hb); (try clear hb)))
         repeat (go_quiet (first | (go_at_call 26; (with_reducible refine (impl_Shortest.calls kj2 a0 t222 t223 _ (hm.below zC) A15.out).mono ?_); rintro e w22 ⟨rfl, hb⟩; replace BK221 := Aside0.mk (blk_below (g := gb221) (o := .cells #[.int .i64 t217, .bool t218, .int .u64 t219, .int .i64 t220] 35 (0, 0)) (zK BK221.out) hb); replace HB := Aside0.mk (below_step zB hb); (try clear hb)) | (go_at_call 44; (with_reducible refine (impl_within.calls (wrap64 ((t222.size : Int) + t223)) (t222.size : Int) 21 true _ A16.out).mono ?_); rintro e w' ⟨rfl, ⟨nd, rfl⟩⟩; (try exact zD)) | (go_at_call 68; (with_reducible refine (strings_Repeat.calls (⟨#[48]⟩ : ByteArray) (wrap64 ((wrap64 ((t222.size : Int) + t223)) - (t222.size : Int))) t225 _ A19.out).mono ?_); rintro e w23 ⟨rfl, hb⟩; replace BK221 := Aside0.mk (blk_below (g := gb221) (o := .cells #[.int .i64 t217, .bool t218, .int .u64 t219, .int .i64 t220] 35 (0, 0)) (zK BK221.out) hb); replace HB := Aside0.mk (below_step zB hb); (try clear hb))); try go_wp2_with (first | (go_at_call 26; (with_reducible refine (impl_Shortest.calls kj2 a0 t222 t223 _ (hm.below zC) A15.out).mono ?_); rintro e w22 ⟨rfl, hb⟩; replace BK221 := Aside0.mk (blk_below (g := gb221) (o := .cells #[.int .i64 t217, .bool t218, .int .u64 t219, .int .i64 t220] 35 (0, 0)) (zK BK221.out) hb); replace HB := Aside0.mk (below_step zB hb); (try clear hb)) | (go_at_call 44; (with_reducible refine (impl_within.calls (wrap64 ((t222.size : Int) + t223)) (t222.size : Int) 21 true _ A16.out).mono ?_); rintro e w' ⟨rfl, ⟨nd, rfl⟩⟩; (try exact zD)) | (go_at_call 68; (with_reducible refine (strings_Repeat.calls (⟨#[48]⟩ : ByteArray) (wrap64 ((wrap64 ((t222.size : Int) + t223)) - (t222.size : Int))) t225 _ A19.out).mono ?_); rintro e w23 ⟨rfl, hb⟩; replace BK221 := Aside0.mk (blk_below (g := gb221) (o := .cells #[.int .i64 t217, .bool t218, .int .u64 t219, .int .i64 t220] 35 (0, 0)) (zK BK221.out) hb); replace HB := Aside0.mk (below_step zB hb); (try clear hb))))
         go_ret
         exact ⟨zF, zB⟩
        ·rw [if_neg c20] at H
         exact absurd H (by simp)
       ·rw [if_neg c18] at H
        exact absurd H (by simp)
      ·replace c17 := Bool.eq_false_iff.mpr c17
       subst c17
       have H1 := H
       rw [if_neg (show ¬ (false = true) by decide)] at H1
       clear H
       have H := H1
       clear H1
       replace H := zM H
       obtain ⟨t226, A240, H⟩ := H
       try dsimp only at H
       have A24 := Aside0.mk A240
       clear A240
       by_cases c25 : t226 = true
       ·subst c25
        have H1 := H
        rw [if_pos rfl] at H1
        clear H
        have H := H1
        clear H1
        obtain ⟨ji26, hji26⟩ : ∃ j_ : Int, (wrap64 ((t222.size : Int) + t223)) = j_ := ⟨_, rfl⟩
        first | rw [hji26] at H | simp only [hji26] at H
        (try rw [hji26] at A15)
        (try rw [hji26] at A16)
        (try rw [hji26] at A24)
        have hji26w : (IntKind.i64.wrap ((t222.size : Int) + t223)) = ji26 := (i64_w _).trans hji26
        by_cases c27 : 0 ≤ (ji26)
        ·rw [if_pos c27] at H
         have c27b0 := eq_true c27
         have c27b1 := decide_eq_true c27
         clear c27
         by_cases c28 : (ji26) ≤ (t222.size : Int)
         ·rw [if_pos c28] at H
          have c28b0 := eq_true c28
          have c28b1 := decide_eq_true c28
          clear c28
          by_cases c29 : x4_2.size + (t222.extract 0 ((ji26) : Int).toNat).size ≤ 9223372036854775807
          ·rw [if_pos c29] at H
           have c29b0 := eq_true c29
           have c29b1 := decide_eq_true c29
           try have c29b2 : (9223372036854775807 < x4_2.size + (t222.extract 0 ((ji26) : Int).toNat).size) = False := eq_false (Nat.not_lt.2 c29)
           try (have c29x0 := c29b0; have c29x1 := c29b1; have c29x2 := c29b2; simp only [ByteArray.size_append, ByteArray.size_extract, Nat.min_self, Nat.sub_zero] at c29x0 c29x1 c29x2)
           try (have hmin : min ((ji26) : Int).toNat t222.size = ((ji26) : Int).toNat := (by have h1 := of_decide_eq_true (by assumption : decide ((ji26) ≤ (t222.size : Int)) = true); omega); have c29y0 := c29x0; have c29y1 := c29x1; have c29y2 := c29x2; simp only [hmin] at c29y0 c29y1 c29y2)
           by_cases c30 : (x4_2 ++ (t222.extract 0 ((ji26) : Int).toNat)).size + 1 ≤ 9223372036854775807
           ·rw [if_pos c30] at H
            have c30b0 := eq_true c30
            have c30b1 := decide_eq_true c30
            try have c30b2 : (9223372036854775807 < (x4_2 ++ (t222.extract 0 ((ji26) : Int).toNat)).size + 1) = False := eq_false (Nat.not_lt.2 c30)
            try (have c30x0 := c30b0; have c30x1 := c30b1; have c30x2 := c30b2; simp only [ByteArray.size_append, ByteArray.size_extract, Nat.min_self, Nat.sub_zero] at c30x0 c30x1 c30x2)
            try (have hmin : min ((ji26) : Int).toNat t222.size = ((ji26) : Int).toNat := (by have h1 := of_decide_eq_true (by assumption : decide ((ji26) ≤ (t222.size : Int)) = true); omega); have c30y0 := c30x0; have c30y1 := c30x1; have c30y2 := c30x2; simp only [hmin] at c30y0 c30y1 c30y2)
            try (have c30s0 := c30b0; have c30s1 := c30b1; have c30s2 := c30b2; simp only [ByteArray.size_append] at c30s0 c30s1 c30s2)
            have c31b0 := eq_true (of_decide_eq_true zA : 0 ≤ (ji26))
            have c32b0 := eq_true (of_decide_eq_true zA : (ji26) ≤ (t222.size : Int))
            by_cases c33 : ((x4_2 ++ (t222.extract 0 ((ji26) : Int).toNat)) ++ (⟨#[46]⟩ : ByteArray)).size + (t222.extract ((ji26) : Int).toNat t222.size).size ≤ 9223372036854775807
            ·rw [if_pos c33] at H
             have c33b0 := eq_true c33
             have c33b1 := decide_eq_true c33
             try have c33b2 : (9223372036854775807 < ((x4_2 ++ (t222.extract 0 ((ji26) : Int).toNat)) ++ (⟨#[46]⟩ : ByteArray)).size + (t222.extract ((ji26) : Int).toNat t222.size).size) = False := eq_false (Nat.not_lt.2 c33)
             try (have c33x0 := c33b0; have c33x1 := c33b1; have c33x2 := c33b2; simp only [ByteArray.size_append, ByteArray.size_extract, Nat.min_self, Nat.sub_zero, show (⟨#[46]⟩ : ByteArray).size = 1 from rfl] at c33x0 c33x1 c33x2)
             try (have hmin : min ((ji26) : Int).toNat t222.size = ((ji26) : Int).toNat := (by have h1 := of_decide_eq_true (by assumption : decide ((ji26) ≤ (t222.size : Int)) = true); omega); have c33y0 := c33x0; have c33y1 := c33x1; have c33y2 := c33x2; simp only [hmin] at c33y0 c33y1 c33y2)
             try (have c33s0 := c33b0; have c33s1 := c33b1; have c33s2 := c33b2; simp only [ByteArray.size_append, show (⟨#[46]⟩ : ByteArray).size = 1 from rfl] at c33s0 c33s1 c33s2)
             obtain rfl := Option.some.inj H
             have hcz34_0 : wc.cell? ⟨gb221, 0, none⟩ = some (.int .i64 t217) := (blk_cell BK221.out 0).trans rfl
             have hcz34_1 : wc.cell? ⟨gb221, 1, none⟩ = some (.bool t218) := (blk_cell BK221.out 1).trans rfl
             have hcz34_2 : wc.cell? ⟨gb221, 2, none⟩ = some (.int .u64 t219) := (blk_cell BK221.out 2).trans rfl
             have hcz34_3 : wc.cell? ⟨gb221, 3, none⟩ = some (.int .i64 t220) := (blk_cell BK221.out 3).trans rfl
             have hfz34_0 := blk_frozen BK221.out 0
             have hfz34_1 := blk_frozen BK221.out 1
             have hfz34_2 := blk_frozen BK221.out 2
             have hfz34_3 := blk_frozen BK221.out 3
             go_wp2_with (first | (go_at_call 26; (with_reducible refine (impl_Shortest.calls kj2 a0 t222 t223 _ (hm.below zC) A15.out).mono ?_); rintro e w35 ⟨rfl, hb⟩; replace BK221 := Aside0.mk (blk_below (g := gb221) (o := .cells #[.int .i64 t217, .bool t218, .int .u64 t219, .int .i64 t220] 35 (0, 0)) (zK BK221.out) hb); replace HB := Aside0.mk (below_step zB hb); (try clear hb)) | (go_at_call 44; (with_reducible refine (impl_within.calls ji26 (t222.size : Int) 21 false _ A16.out).mono ?_); rintro e w' ⟨rfl, ⟨nd, rfl⟩⟩; (try exact zD)) | (go_at_call 44; (with_reducible refine (impl_within.calls ji26 1 21 true _ A24.out).mono ?_); rintro e w' ⟨rfl, ⟨nd, rfl⟩⟩; (try exact zD)))
             repeat (go_quiet (first | (go_at_call 26; (with_reducible refine (impl_Shortest.calls kj2 a0 t222 t223 _ (hm.below zC) A15.out).mono ?_); rintro e w35 ⟨rfl, hb⟩; replace BK221 := Aside0.mk (blk_below (g := gb221) (o := .cells #[.int .i64 t217, .bool t218, .int .u64 t219, .int .i64 t220] 35 (0, 0)) (zK BK221.out) hb); replace HB := Aside0.mk (below_step zB hb); (try clear hb)) | (go_at_call 44; (with_reducible refine (impl_within.calls ji26 (t222.size : Int) 21 false _ A16.out).mono ?_); rintro e w' ⟨rfl, ⟨nd, rfl⟩⟩; (try exact zD)) | (go_at_call 44; (with_reducible refine (impl_within.calls ji26 1 21 true _ A24.out).mono ?_); rintro e w' ⟨rfl, ⟨nd, rfl⟩⟩; (try exact zD))); try go_wp2_with (first | (go_at_call 26; (with_reducible refine (impl_Shortest.calls kj2 a0 t222 t223 _ (hm.below zC) A15.out).mono ?_); rintro e w35 ⟨rfl, hb⟩; replace BK221 := Aside0.mk (blk_below (g := gb221) (o := .cells #[.int .i64 t217, .bool t218, .int .u64 t219, .int .i64 t220] 35 (0, 0)) (zK BK221.out) hb); replace HB := Aside0.mk (below_step zB hb); (try clear hb)) | (go_at_call 44; (with_reducible refine (impl_within.calls ji26 (t222.size : Int) 21 false _ A16.out).mono ?_); rintro e w' ⟨rfl, ⟨nd, rfl⟩⟩; (try exact zD)) | (go_at_call 44; (with_reducible refine (impl_within.calls ji26 1 21 true _ A24.out).mono ?_); rintro e w' ⟨rfl, ⟨nd, rfl⟩⟩; (try exact zD))))
             go_ret
             exact ⟨by first | rfl | (simp [errW_none, errW_some] <;> rfl) | (simp only [← hji26]; first | rfl | (simp [errW_none, errW_some] <;> rfl)) | (simp [*, errW_none, errW_some] <;> rfl), zB⟩
            ·rw [if_neg c33] at H
             exact absurd H (by simp)
           ·rw [if_neg c30] at H
            exact absurd H (by simp)
          ·rw [if_neg c29] at H
           exact absurd H (by simp)
         ·rw [if_neg c28] at H
          exact absurd H (by simp)
        ·rw [if_neg c27] at H
         exact absurd H (by simp)
       ·replace c25 := Bool.eq_false_iff.mpr c25
        subst c25
        have H1 := H
        rw [if_neg (show ¬ (false = true) by decide)] at H1
        clear H
        have H := H1
        clear H1
        replace H := zM H
        obtain ⟨t227, A360, H⟩ := H
        try dsimp only at H
        have A36 := Aside0.mk A360
        clear A360
        by_cases c37 : t227 = true
        ·subst c37
         have H1 := H
         rw [if_pos rfl] at H1
         clear H
         have H := H1
         clear H1
         by_cases c38 : x4_2.size + 2 ≤ 9223372036854775807
         ·rw [if_pos c38] at H
          have c38b0 := eq_true c38
          have c38b1 := decide_eq_true c38
          try have c38b2 : (9223372036854775807 < x4_2.size + 2) = False := eq_false (Nat.not_lt.2 c38)
          replace H := zM H
          obtain ⟨t228, A390, H⟩ := H
          try dsimp only at H
          have A39 := Aside0.mk A390
          clear A390
          by_cases c40 : (x4_2 ++ (⟨#[48, 46]⟩ : ByteArray)).size + t228.size ≤ 9223372036854775807
          ·rw [if_pos c40] at H
           have c40b0 := eq_true c40
           have c40b1 := decide_eq_true c40
           try have c40b2 : (9223372036854775807 < (x4_2 ++ (⟨#[48, 46]⟩ : ByteArray)).size + t228.size) = False := eq_false (Nat.not_lt.2 c40)
           try (have c40s0 := c40b0; have c40s1 := c40b1; have c40s2 := c40b2; simp only [ByteArray.size_append, show (⟨#[48, 46]⟩ : ByteArray).size = 2 from rfl] at c40s0 c40s1 c40s2)
           by_cases c41 : ((x4_2 ++ (⟨#[48, 46]⟩ : ByteArray)) ++ t228).size + t222.size ≤ 9223372036854775807
           ·rw [if_pos c41] at H
            have c41b0 := eq_true c41
            have c41b1 := decide_eq_true c41
            try have c41b2 : (9223372036854775807 < ((x4_2 ++ (⟨#[48, 46]⟩ : ByteArray)) ++ t228).size + t222.size) = False := eq_false (Nat.not_lt.2 c41)
            try (have c41s0 := c41b0; have c41s1 := c41b1; have c41s2 := c41b2; simp only [ByteArray.size_append, show (⟨#[48, 46]⟩ : ByteArray).size = 2 from rfl] at c41s0 c41s1 c41s2)
            obtain rfl := Option.some.inj H
            have hcz42_0 : wc.cell? ⟨gb221, 0, none⟩ = some (.int .i64 t217) := (blk_cell BK221.out 0).trans rfl
            have hcz42_1 : wc.cell? ⟨gb221, 1, none⟩ = some (.bool t218) := (blk_cell BK221.out 1).trans rfl
            have hcz42_2 : wc.cell? ⟨gb221, 2, none⟩ = some (.int .u64 t219) := (blk_cell BK221.out 2).trans rfl
            have hcz42_3 : wc.cell? ⟨gb221, 3, none⟩ = some (.int .i64 t220) := (blk_cell BK221.out 3).trans rfl
            have hfz42_0 := blk_frozen BK221.out 0
            have hfz42_1 := blk_frozen BK221.out 1
            have hfz42_2 := blk_frozen BK221.out 2
            have hfz42_3 := blk_frozen BK221.out 3
            go_wp2_with (first | (go_at_call 26; (with_reducible refine (impl_Shortest.calls kj2 a0 t222 t223 _ (hm.below zC) A15.out).mono ?_); rintro e w43 ⟨rfl, hb⟩; replace BK221 := Aside0.mk (blk_below (g := gb221) (o := .cells #[.int .i64 t217, .bool t218, .int .u64 t219, .int .i64 t220] 35 (0, 0)) (zK BK221.out) hb); replace HB := Aside0.mk (below_step zB hb); (try clear hb)) | (go_at_call 44; (with_reducible refine (impl_within.calls (wrap64 ((t222.size : Int) + t223)) (t222.size : Int) 21 false _ A16.out).mono ?_); rintro e w' ⟨rfl, ⟨nd, rfl⟩⟩; (try exact zD)) | (go_at_call 44; (with_reducible refine (impl_within.calls (wrap64 ((t222.size : Int) + t223)) 1 21 false _ A24.out).mono ?_); rintro e w' ⟨rfl, ⟨nd, rfl⟩⟩; (try exact zD)) | (go_at_call 44; (with_reducible refine (impl_within.calls (wrap64 ((t222.size : Int) + t223)) (-5) 0 true _ A36.out).mono ?_); rintro e w' ⟨rfl, ⟨nd, rfl⟩⟩; (try exact zD)) | (go_at_call 68; (with_reducible refine (strings_Repeat.calls (⟨#[48]⟩ : ByteArray) (wrap64 (-(wrap64 ((t222.size : Int) + t223)))) t228 _ A39.out).mono ?_); rintro e w44 ⟨rfl, hb⟩; replace BK221 := Aside0.mk (blk_below (g := gb221) (o := .cells #[.int .i64 t217, .bool t218, .int .u64 t219, .int .i64 t220] 35 (0, 0)) (zK BK221.out) hb); replace HB := Aside0.mk (below_step zB hb); (try clear hb)))
            repeat (go_quiet (first | (go_at_call 26; (with_reducible refine (impl_Shortest.calls kj2 a0 t222 t223 _ (hm.below zC) A15.out).mono ?_); rintro e w43 ⟨rfl, hb⟩; replace BK221 := Aside0.mk (blk_below (g := gb221) (o := .cells #[.int .i64 t217, .bool t218, .int .u64 t219, .int .i64 t220] 35 (0, 0)) (zK BK221.out) hb); replace HB := Aside0.mk (below_step zB hb); (try clear hb)) | (go_at_call 44; (with_reducible refine (impl_within.calls (wrap64 ((t222.size : Int) + t223)) (t222.size : Int) 21 false _ A16.out).mono ?_); rintro e w' ⟨rfl, ⟨nd, rfl⟩⟩; (try exact zD)) | (go_at_call 44; (with_reducible refine (impl_within.calls (wrap64 ((t222.size : Int) + t223)) 1 21 false _ A24.out).mono ?_); rintro e w' ⟨rfl, ⟨nd, rfl⟩⟩; (try exact zD)) | (go_at_call 44; (with_reducible refine (impl_within.calls (wrap64 ((t222.size : Int) + t223)) (-5) 0 true _ A36.out).mono ?_); rintro e w' ⟨rfl, ⟨nd, rfl⟩⟩; (try exact zD)) | (go_at_call 68; (with_reducible refine (strings_Repeat.calls (⟨#[48]⟩ : ByteArray) (wrap64 (-(wrap64 ((t222.size : Int) + t223)))) t228 _ A39.out).mono ?_); rintro e w44 ⟨rfl, hb⟩; replace BK221 := Aside0.mk (blk_below (g := gb221) (o := .cells #[.int .i64 t217, .bool t218, .int .u64 t219, .int .i64 t220] 35 (0, 0)) (zK BK221.out) hb); replace HB := Aside0.mk (below_step zB hb); (try clear hb))); try go_wp2_with (first | (go_at_call 26; (with_reducible refine (impl_Shortest.calls kj2 a0 t222 t223 _ (hm.below zC) A15.out).mono ?_); rintro e w43 ⟨rfl, hb⟩; replace BK221 := Aside0.mk (blk_below (g := gb221) (o := .cells #[.int .i64 t217, .bool t218, .int .u64 t219, .int .i64 t220] 35 (0, 0)) (zK BK221.out) hb); replace HB := Aside0.mk (below_step zB hb); (try clear hb)) | (go_at_call 44; (with_reducible refine (impl_within.calls (wrap64 ((t222.size : Int) + t223)) (t222.size : Int) 21 false _ A16.out).mono ?_); rintro e w' ⟨rfl, ⟨nd, rfl⟩⟩; (try exact zD)) | (go_at_call 44; (with_reducible refine (impl_within.calls (wrap64 ((t222.size : Int) + t223)) 1 21 false _ A24.out).mono ?_); rintro e w' ⟨rfl, ⟨nd, rfl⟩⟩; (try exact zD)) | (go_at_call 44; (with_reducible refine (impl_within.calls (wrap64 ((t222.size : Int) + t223)) (-5) 0 true _ A36.out).mono ?_); rintro e w' ⟨rfl, ⟨nd, rfl⟩⟩; (try exact zD)) | (go_at_call 68; (with_reducible refine (strings_Repeat.calls (⟨#[48]⟩ : ByteArray) (wrap64 (-(wrap64 ((t222.size : Int) + t223)))) t228 _ A39.out).mono ?_); rintro e w44 ⟨rfl, hb⟩; replace BK221 := Aside0.mk (blk_below (g := gb221) (o := .cells #[.int .i64 t217, .bool t218, .int .u64 t219, .int .i64 t220] 35 (0, 0)) (zK BK221.out) hb); replace HB := Aside0.mk (below_step zB hb); (try clear hb))))
            go_ret
            exact ⟨zF, zB⟩
           ·rw [if_neg c41] at H
            exact absurd H (by simp)
          ·rw [if_neg c40] at H
           exact absurd H (by simp)
         ·rw [if_neg c38] at H
          exact absurd H (by simp)
        ·replace c37 := Bool.eq_false_iff.mpr c37
         subst c37
         have H1 := H
         rw [if_neg (show ¬ (false = true) by decide)] at H1
         clear H
         have H := H1
         clear H1
         by_cases c45 : 0 ≤ 1
         ·rw [if_pos c45] at H
          have c45b0 := eq_true c45
          have c45b1 := decide_eq_true c45
          clear c45
          by_cases c46 : 1 ≤ (t222.size : Int)
          ·rw [if_pos c46] at H
           have c46b0 := eq_true c46
           have c46b1 := decide_eq_true c46
           clear c46
           by_cases c47 : x4_2.size + (t222.extract 0 1).size ≤ 9223372036854775807
           ·rw [if_pos c47] at H
            have c47b0 := eq_true c47
            have c47b1 := decide_eq_true c47
            try have c47b2 : (9223372036854775807 < x4_2.size + (t222.extract 0 1).size) = False := eq_false (Nat.not_lt.2 c47)
            try (have c47x0 := c47b0; have c47x1 := c47b1; have c47x2 := c47b2; simp only [ByteArray.size_append, ByteArray.size_extract, Nat.min_self, Nat.sub_zero] at c47x0 c47x1 c47x2)
            have HC48 := Aside0.mk H
            clear H
            have hcz49_0 : wc.cell? ⟨gb221, 0, none⟩ = some (.int .i64 t217) := (blk_cell BK221.out 0).trans rfl
            have hcz49_1 : wc.cell? ⟨gb221, 1, none⟩ = some (.bool t218) := (blk_cell BK221.out 1).trans rfl
            have hcz49_2 : wc.cell? ⟨gb221, 2, none⟩ = some (.int .u64 t219) := (blk_cell BK221.out 2).trans rfl
            have hcz49_3 : wc.cell? ⟨gb221, 3, none⟩ = some (.int .i64 t220) := (blk_cell BK221.out 3).trans rfl
            have hfz49_0 := blk_frozen BK221.out 0
            have hfz49_1 := blk_frozen BK221.out 1
            have hfz49_2 := blk_frozen BK221.out 2
            have hfz49_3 := blk_frozen BK221.out 3
            go_upto_if 75 with (first | (go_at_call 26; (with_reducible refine (impl_Shortest.calls kj2 a0 t222 t223 _ (hm.below zC) A15.out).mono ?_); rintro e w50 ⟨rfl, hb⟩; replace BK221 := Aside0.mk (blk_below (g := gb221) (o := .cells #[.int .i64 t217, .bool t218, .int .u64 t219, .int .i64 t220] 35 (0, 0)) (zK BK221.out) hb); replace HB := Aside0.mk (below_step zB hb); (try clear hb)) | (go_at_call 44; (with_reducible refine (impl_within.calls (wrap64 ((t222.size : Int) + t223)) (t222.size : Int) 21 false _ A16.out).mono ?_); rintro e w' ⟨rfl, ⟨nd, rfl⟩⟩; (try exact zD)) | (go_at_call 44; (with_reducible refine (impl_within.calls (wrap64 ((t222.size : Int) + t223)) 1 21 false _ A24.out).mono ?_); rintro e w' ⟨rfl, ⟨nd, rfl⟩⟩; (try exact zD)) | (go_at_call 44; (with_reducible refine (impl_within.calls (wrap64 ((t222.size : Int) + t223)) (-5) 0 false _ A36.out).mono ?_); rintro e w' ⟨rfl, ⟨nd, rfl⟩⟩; (try exact zD)))
            repeat (go_quiet (first | (go_at_call 26; (with_reducible refine (impl_Shortest.calls kj2 a0 t222 t223 _ (hm.below zC) A15.out).mono ?_); rintro e w50 ⟨rfl, hb⟩; replace BK221 := Aside0.mk (blk_below (g := gb221) (o := .cells #[.int .i64 t217, .bool t218, .int .u64 t219, .int .i64 t220] 35 (0, 0)) (zK BK221.out) hb); replace HB := Aside0.mk (below_step zB hb); (try clear hb)) | (go_at_call 44; (with_reducible refine (impl_within.calls (wrap64 ((t222.size : Int) + t223)) (t222.size : Int) 21 false _ A16.out).mono ?_); rintro e w' ⟨rfl, ⟨nd, rfl⟩⟩; (try exact zD)) | (go_at_call 44; (with_reducible refine (impl_within.calls (wrap64 ((t222.size : Int) + t223)) 1 21 false _ A24.out).mono ?_); rintro e w' ⟨rfl, ⟨nd, rfl⟩⟩; (try exact zD)) | (go_at_call 44; (with_reducible refine (impl_within.calls (wrap64 ((t222.size : Int) + t223)) (-5) 0 false _ A36.out).mono ?_); rintro e w' ⟨rfl, ⟨nd, rfl⟩⟩; (try exact zD))); go_upto_if 75 with (first | (go_at_call 26; (with_reducible refine (impl_Shortest.calls kj2 a0 t222 t223 _ (hm.below zC) A15.out).mono ?_); rintro e w50 ⟨rfl, hb⟩; replace BK221 := Aside0.mk (blk_below (g := gb221) (o := .cells #[.int .i64 t217, .bool t218, .int .u64 t219, .int .i64 t220] 35 (0, 0)) (zK BK221.out) hb); replace HB := Aside0.mk (below_step zB hb); (try clear hb)) | (go_at_call 44; (with_reducible refine (impl_within.calls (wrap64 ((t222.size : Int) + t223)) (t222.size : Int) 21 false _ A16.out).mono ?_); rintro e w' ⟨rfl, ⟨nd, rfl⟩⟩; (try exact zD)) | (go_at_call 44; (with_reducible refine (impl_within.calls (wrap64 ((t222.size : Int) + t223)) 1 21 false _ A24.out).mono ?_); rintro e w' ⟨rfl, ⟨nd, rfl⟩⟩; (try exact zD)) | (go_at_call 44; (with_reducible refine (impl_within.calls (wrap64 ((t222.size : Int) + t223)) (-5) 0 false _ A36.out).mono ?_); rintro e w' ⟨rfl, ⟨nd, rfl⟩⟩; (try exact zD))))
            (try simp only [Act.put, List.setIfInBounds_toArray, List.set_cons_zero, List.set_cons_succ])
            go_cut [9] (fun v9 wc => ∃ (kq : Nat) (x9_47 : ByteArray), v9 = .string x9_47 ∧ Aside0 (impl_ShowNumber.j1 kq (wrap64 ((t222.size : Int) + t223)) x9_47 = some r) ∧ Aside0 (kq ≤ kj2) ∧ Aside0 (wc.heap[gb221]? = some (.cells #[.int .i64 t217, .bool t218, .int .u64 t219, .int .i64 t220] 35 (0, 0))) ∧ Aside0 (Below w.heap.size w wc))
            case first =>
             have H := HC48.out
             clear HC48
             by_cases c51 : (t222.size : Int) > 1
             ·rw [if_pos c51] at H
              have c51b0 : decide (1 < (t222.size : Int)) = true := decide_eq_true c51
              have c51b1 : decide (1 < t222.size) = true := decide_eq_true (by omega)
              clear c51
              (first | rw [c51b0] | (simp only [i64_w, i32_w]; rw [c51b0]) | skip)
              by_cases c52 : (x4_2 ++ (t222.extract 0 1)).size + 1 ≤ 9223372036854775807
              ·rw [if_pos c52] at H
               have c52b0 := eq_true c52
               have c52b1 := decide_eq_true c52
               try have c52b2 : (9223372036854775807 < (x4_2 ++ (t222.extract 0 1)).size + 1) = False := eq_false (Nat.not_lt.2 c52)
               try (have c52x0 := c52b0; have c52x1 := c52b1; have c52x2 := c52b2; simp only [ByteArray.size_append, ByteArray.size_extract, Nat.min_self, Nat.sub_zero] at c52x0 c52x1 c52x2)
               try (have c52s0 := c52b0; have c52s1 := c52b1; have c52s2 := c52b2; simp only [ByteArray.size_append] at c52s0 c52s1 c52s2)
               have c53b0 := eq_true (of_decide_eq_true zA : 1 ≤ (t222.size : Int))
               by_cases c54 : ((x4_2 ++ (t222.extract 0 1)) ++ (⟨#[46]⟩ : ByteArray)).size + (t222.extract 1 t222.size).size ≤ 9223372036854775807
               ·rw [if_pos c54] at H
                have c54b0 := eq_true c54
                have c54b1 := decide_eq_true c54
                try have c54b2 : (9223372036854775807 < ((x4_2 ++ (t222.extract 0 1)) ++ (⟨#[46]⟩ : ByteArray)).size + (t222.extract 1 t222.size).size) = False := eq_false (Nat.not_lt.2 c54)
                try (have c54x0 := c54b0; have c54x1 := c54b1; have c54x2 := c54b2; simp only [ByteArray.size_append, ByteArray.size_extract, Nat.min_self, Nat.sub_zero, show (⟨#[46]⟩ : ByteArray).size = 1 from rfl] at c54x0 c54x1 c54x2)
                try (have c54s0 := c54b0; have c54s1 := c54b1; have c54s2 := c54b2; simp only [ByteArray.size_append, show (⟨#[46]⟩ : ByteArray).size = 1 from rfl] at c54s0 c54s1 c54s2)
                have H' := Aside0.mk H
                clear H
                go_wp2
                repeat (go_quiet (fail); try go_wp2)
                go_meet
                case rel => exact ⟨_, (((x4_2 ++ (t222.extract 0 1)) ++ (⟨#[46]⟩ : ByteArray)) ++ (t222.extract 1 t222.size)), zE, H', ⟨by have := HJ2.out; first | omega | exact Nat.le_refl _⟩, ⟨zK BK221.out⟩, ⟨zB⟩⟩
               ·rw [if_neg c54] at H
                exact absurd H (by simp)
              ·rw [if_neg c52] at H
               exact absurd H (by simp)
             ·rw [if_neg c51] at H
              have c51b0 : decide (1 < (t222.size : Int)) = false := decide_eq_false c51
              have c51b1 : decide (1 < t222.size) = false := decide_eq_false (by omega)
              clear c51
              (first | rw [c51b0] | (simp only [i64_w, i32_w]; rw [c51b0]) | skip)
              have H' := Aside0.mk H
              clear H
              go_wp2
              repeat (go_quiet (fail); try go_wp2)
              go_meet
              case rel => exact ⟨_, (x4_2 ++ (t222.extract 0 1)), zE, H', ⟨by have := HJ2.out; first | omega | exact Nat.le_refl _⟩, ⟨zK BK221.out⟩, ⟨zB⟩⟩
            case rest =>
             clear HC48
             obtain ⟨kq, x9_47, rfl, HA, HJ47, BK221, HB⟩ := hcut
             cases kq with
             | zero => exact absurd HA.out (by simp [impl_ShowNumber.j1])
             | succ kj47 =>
              have H := HA.out
              clear HA
              simp only [impl_ShowNumber.j1] at H
              by_cases c55 : (wrap64 ((wrap64 ((t222.size : Int) + t223)) - 1)) < 0
              ·rw [if_pos c55] at H
               have c55b0 := decide_eq_true c55
               clear c55
               by_cases c56 : x9_47.size + 2 ≤ 9223372036854775807
               ·rw [if_pos c56] at H
                have c56b0 := eq_true c56
                have c56b1 := decide_eq_true c56
                try have c56b2 : (9223372036854775807 < x9_47.size + 2) = False := eq_false (Nat.not_lt.2 c56)
                replace H := zM H
                obtain ⟨t229, A570, H⟩ := H
                try dsimp only at H
                have A57 := Aside0.mk A570
                clear A570
                by_cases c58 : (x9_47 ++ (⟨#[101, 45]⟩ : ByteArray)).size + t229.size ≤ 9223372036854775807
                ·rw [if_pos c58] at H
                 have c58b0 := eq_true c58
                 have c58b1 := decide_eq_true c58
                 try have c58b2 : (9223372036854775807 < (x9_47 ++ (⟨#[101, 45]⟩ : ByteArray)).size + t229.size) = False := eq_false (Nat.not_lt.2 c58)
                 try (have c58s0 := c58b0; have c58s1 := c58b1; have c58s2 := c58b2; simp only [ByteArray.size_append, show (⟨#[101, 45]⟩ : ByteArray).size = 2 from rfl] at c58s0 c58s1 c58s2)
                 obtain rfl := Option.some.inj H
                 go_wp2_with (first | (go_at_call 46; (with_reducible refine (impl_Decimal.calls kj47 (wrap64 (1 - (wrap64 ((t222.size : Int) + t223)))) t229 _ A57.out).mono ?_); rintro e w59 ⟨rfl, hb⟩; replace BK221 := Aside0.mk (blk_below (g := gb221) (o := .cells #[.int .i64 t217, .bool t218, .int .u64 t219, .int .i64 t220] 35 (0, 0)) (zK BK221.out) hb); replace HB := Aside0.mk (below_step zB hb); (try clear hb)))
                 repeat (go_quiet (first | (go_at_call 46; (with_reducible refine (impl_Decimal.calls kj47 (wrap64 (1 - (wrap64 ((t222.size : Int) + t223)))) t229 _ A57.out).mono ?_); rintro e w59 ⟨rfl, hb⟩; replace BK221 := Aside0.mk (blk_below (g := gb221) (o := .cells #[.int .i64 t217, .bool t218, .int .u64 t219, .int .i64 t220] 35 (0, 0)) (zK BK221.out) hb); replace HB := Aside0.mk (below_step zB hb); (try clear hb))); try go_wp2_with (first | (go_at_call 46; (with_reducible refine (impl_Decimal.calls kj47 (wrap64 (1 - (wrap64 ((t222.size : Int) + t223)))) t229 _ A57.out).mono ?_); rintro e w59 ⟨rfl, hb⟩; replace BK221 := Aside0.mk (blk_below (g := gb221) (o := .cells #[.int .i64 t217, .bool t218, .int .u64 t219, .int .i64 t220] 35 (0, 0)) (zK BK221.out) hb); replace HB := Aside0.mk (below_step zB hb); (try clear hb))))
                 go_ret
                 exact ⟨zF, zB⟩
                ·rw [if_neg c58] at H
                 exact absurd H (by simp)
               ·rw [if_neg c56] at H
                exact absurd H (by simp)
              ·rw [if_neg c55] at H
               have c55b0 := decide_eq_false c55
               clear c55
               by_cases c60 : x9_47.size + 2 ≤ 9223372036854775807
               ·rw [if_pos c60] at H
                have c60b0 := eq_true c60
                have c60b1 := decide_eq_true c60
                try have c60b2 : (9223372036854775807 < x9_47.size + 2) = False := eq_false (Nat.not_lt.2 c60)
                replace H := zM H
                obtain ⟨t230, A610, H⟩ := H
                try dsimp only at H
                have A61 := Aside0.mk A610
                clear A610
                by_cases c62 : (x9_47 ++ (⟨#[101, 43]⟩ : ByteArray)).size + t230.size ≤ 9223372036854775807
                ·rw [if_pos c62] at H
                 have c62b0 := eq_true c62
                 have c62b1 := decide_eq_true c62
                 try have c62b2 : (9223372036854775807 < (x9_47 ++ (⟨#[101, 43]⟩ : ByteArray)).size + t230.size) = False := eq_false (Nat.not_lt.2 c62)
                 try (have c62s0 := c62b0; have c62s1 := c62b1; have c62s2 := c62b2; simp only [ByteArray.size_append, show (⟨#[101, 43]⟩ : ByteArray).size = 2 from rfl] at c62s0 c62s1 c62s2)
                 obtain rfl := Option.some.inj H
                 go_wp2_with (first | (go_at_call 46; (with_reducible refine (impl_Decimal.calls kj47 (wrap64 ((wrap64 ((t222.size : Int) + t223)) - 1)) t230 _ A61.out).mono ?_); rintro e w63 ⟨rfl, hb⟩; replace BK221 := Aside0.mk (blk_below (g := gb221) (o := .cells #[.int .i64 t217, .bool t218, .int .u64 t219, .int .i64 t220] 35 (0, 0)) (zK BK221.out) hb); replace HB := Aside0.mk (below_step zB hb); (try clear hb)))
                 repeat (go_quiet (first | (go_at_call 46; (with_reducible refine (impl_Decimal.calls kj47 (wrap64 ((wrap64 ((t222.size : Int) + t223)) - 1)) t230 _ A61.out).mono ?_); rintro e w63 ⟨rfl, hb⟩; replace BK221 := Aside0.mk (blk_below (g := gb221) (o := .cells #[.int .i64 t217, .bool t218, .int .u64 t219, .int .i64 t220] 35 (0, 0)) (zK BK221.out) hb); replace HB := Aside0.mk (below_step zB hb); (try clear hb))); try go_wp2_with (first | (go_at_call 46; (with_reducible refine (impl_Decimal.calls kj47 (wrap64 ((wrap64 ((t222.size : Int) + t223)) - 1)) t230 _ A61.out).mono ?_); rintro e w63 ⟨rfl, hb⟩; replace BK221 := Aside0.mk (blk_below (g := gb221) (o := .cells #[.int .i64 t217, .bool t218, .int .u64 t219, .int .i64 t220] 35 (0, 0)) (zK BK221.out) hb); replace HB := Aside0.mk (below_step zB hb); (try clear hb))))
                 go_ret
                 exact ⟨zF, zB⟩
                ·rw [if_neg c62] at H
                 exact absurd H (by simp)
               ·rw [if_neg c60] at H
                exact absurd H (by simp)
           ·rw [if_neg c47] at H
            exact absurd H (by simp)
          ·rw [if_neg c46] at H
           exact absurd H (by simp)
         ·rw [if_neg c45] at H
          exact absurd H (by simp)

def impl_Nearest.f (a0 : ByteArray) (a1 : Int) : Option (Int) := G.impl_Nearest a0 a1
theorem impl_Nearest.calls (a0 : ByteArray) (a1 : Int) (r : Int) (w : World) (hm : G.Homey w) (h : impl_Nearest.f a0 a1 = some r) :
  Calls Tryz.prog 15 #[.string a0, .int .i64 a1] w fun e w' => e = .returned (.int .u64 r) ∧ Below w.heap.size w w' := G.impl_Nearest_calls a0 a1 r w hm h

def impl_isDigit.f (a0 : Int) : Option (Bool) := if a0 ≥ 48 then (some (decide (a0 ≤ 57))) else (some false)
theorem impl_isDigit.calls (a0 : Int) (r : Bool) (w : World) (h : impl_isDigit.f a0 = some r) :
  Calls Tryz.prog 109 #[.int .u8 a0] w fun e w' => e = .returned (.bool r) ∧ Drawn0 w w' := by
 have H : (if a0 ≥ 48 then (some (decide (a0 ≤ 57))) else (some false)) = some r := h
 clear h
 by_cases c2 : a0 ≥ 48
 ·rw [if_pos c2] at H
  have c2b0 : decide (48 ≤ a0) = true := decide_eq_true c2
  clear c2
  obtain rfl := Option.some.inj H
  go_enter Tryz.func109, Tryz.ntmps109
  go_wp2
  go_ret
  exact ⟨zE, zW⟩
 ·rw [if_neg c2] at H
  have c2b0 : decide (48 ≤ a0) = false := decide_eq_false c2
  clear c2
  obtain rfl := Option.some.inj H
  go_enter Tryz.func109, Tryz.ntmps109
  go_wp2
  go_ret
  exact ⟨zE, zW⟩

def impl_digitRun.l0 : Nat → ByteArray → Int → Int → Option (Int)
 | 0, _, _, _ => none
 | k + 1, x0, x1, x5 => if (wrap64 (x1 + x5)) < (x0.size : Int) then (if 0 ≤ (wrap64 (x1 + x5)) then ((impl_isDigit.f (bt x0 (wrap64 (x1 + x5)))).bind fun t231 => (if t231 = true then (impl_digitRun.l0 k x0 x1 (wrap64 (x5 + 1))) else (some x5))) else (none)) else (some x5)
def impl_digitRun.f (k : Nat) (a0 : ByteArray) (a1 : Int) : Option (Int) := impl_digitRun.l0 k a0 a1 0
theorem impl_digitRun.mono_l : ∀ k, (∀ y0 y1 y2, LeO (impl_digitRun.l0 k y0 y1 y2) (impl_digitRun.l0 (k + 1) y0 y1 y2))
  | 0 => fun _ _ _ r h => by simp [impl_digitRun.l0] at h
  | k + 1 => by
    have ih0 := impl_digitRun.mono_l k
    · intro y0 y1 y2
      unfold impl_digitRun.l0
      with_reducible repeat' first
      | exact ih0 _ _ _
      | exact LeO.refl _
      | exact LeO.none _
      | refine LeO.ite ?_ ?_
      | refine LeO.bind ?_ (fun _ => ?_)
theorem impl_digitRun.mono : ∀ a0 a1 k, LeO (impl_digitRun.f k a0 a1) (impl_digitRun.f (k + 1) a0 a1) := by
 intro a0 a1 k
 have ih0 := impl_digitRun.mono_l k
 unfold impl_digitRun.f
 with_reducible repeat' first
 | exact ih0 _ _ _
 | exact LeO.refl _
 | exact LeO.none _
 | refine LeO.ite ?_ ?_
 | refine LeO.bind ?_ (fun _ => ?_)
theorem impl_digitRun.calls (k : Nat) (a0 : ByteArray) (a1 : Int) (r : Int) (w : World) (h : impl_digitRun.f k a0 a1 = some r) :
  Calls Tryz.prog 70 #[.string a0, .int .i64 a1] w fun e w' => e = .returned (.int .i64 r) ∧ Drawn0 w w' := by
 have H : (impl_digitRun.l0 k a0 a1 0) = some r := h
 clear h
 have H' := Aside0.mk H
 clear H
 go_enter Tryz.func70, Tryz.ntmps70
 go_wp2
 go_loopg [5] k (fun kq v5 w' => ∃ (x5_1 : Int), v5 = .int .i64 x5_1 ∧ Aside0 (impl_digitRun.l0 kq a0 a1 x5_1 = some r) ∧ Aside0 (kq ≤ k) ∧ Drawn0 w w')
 case atStart => exact ⟨(0), zE, H', ⟨Nat.le_refl _⟩, zW⟩
 case round =>
  clear H'
  obtain ⟨x5_1, rfl, HA, HK1, ⟨m1, rfl⟩⟩ := hrel
  cases gk with
  | zero => exact absurd HA.out (by simp [impl_digitRun.l0])
  | succ k1 =>
   have H := HA.out
   clear HA
   simp only [impl_digitRun.l0] at H
   by_cases c3 : (wrap64 (a1 + x5_1)) < (a0.size : Int)
   ·rw [if_pos c3] at H
    have c3b0 := decide_eq_true c3
    clear c3
    obtain ⟨ji4, hji4⟩ : ∃ j_ : Int, (wrap64 (a1 + x5_1)) = j_ := ⟨_, rfl⟩
    first | rw [hji4] at H | simp only [hji4] at H
    (try rw [hji4] at c3b0)
    have hji4w : (IntKind.i64.wrap (a1 + x5_1)) = ji4 := (i64_w _).trans hji4
    by_cases c5 : 0 ≤ (ji4)
    ·rw [if_pos c5] at H
     have c5b0 := decide_eq_true c5
     clear c5
     replace H := zM H
     obtain ⟨t231, A70, H⟩ := H
     try dsimp only at H
     have A7 := Aside0.mk A70
     clear A70
     by_cases c8 : t231 = true
     ·subst c8
      have H1 := H
      rw [if_pos rfl] at H1
      clear H
      have H := H1
      clear H1
      have H' := Aside0.mk H
      clear H
      have p6 : 0 ≤ ((ji4) : Int) := of_decide_eq_true zA
      have q6 : (ji4) < (a0.size : Int) := of_decide_eq_true zA
      have hx6 := bt_at a0 (ji4)
      replace p6 := eq_true p6
      replace q6 := eq_true q6
      go_wp2_with (first | (go_at_call 109; (with_reducible refine (impl_isDigit.calls (bt a0 (ji4)) true _ A7.out).mono ?_); rintro e w' ⟨rfl, ⟨nd, rfl⟩⟩))
      go_roundg k1
      case measure => have := HK1.out; omega
      case rel => exact ⟨(wrap64 (x5_1 + 1)), zE, H', ⟨by have := HK1.out; omega⟩, zW⟩
     ·replace c8 := Bool.eq_false_iff.mpr c8
      subst c8
      have H1 : (some x5_1) = some r := by rw [if_neg (show ¬ (false = true) by decide)] at H; exact H
      clear H
      have H := H1
      clear H1
      obtain rfl := Option.some.inj H
      have p6 : 0 ≤ ((ji4) : Int) := of_decide_eq_true zA
      have q6 : (ji4) < (a0.size : Int) := of_decide_eq_true zA
      have hx6 := bt_at a0 (ji4)
      replace p6 := eq_true p6
      replace q6 := eq_true q6
      go_wp2_with (first | (go_at_call 109; (with_reducible refine (impl_isDigit.calls (bt a0 (ji4)) false _ A7.out).mono ?_); rintro e w' ⟨rfl, ⟨nd, rfl⟩⟩))
      go_ret
      exact ⟨by first | rfl | (simp; done) | (simp only [← hji4] <;> (first | rfl | simp)) | (simp [*]; done), zW⟩
    ·rw [if_neg c5] at H
     exact absurd H (by simp)
   ·rw [if_neg c3] at H
    have c3b0 := decide_eq_false c3
    clear c3
    obtain rfl := Option.some.inj H
    go_wp2
    go_ret
    exact ⟨zE, zW⟩

def strconv_Atoi.f (a0 : ByteArray) : Option (Int × Option Int) := G.strconv_Atoi a0
theorem strconv_Atoi.calls (a0 : ByteArray) (r1 : Int) (r2 : Option Int) (w : World) (h : strconv_Atoi.f a0 = some (r1, r2)) :
  Calls Tryz.prog 71 #[.string a0] w fun e w' => e = .returned (.tuple #[.int .i64 r1, errW r2]) ∧ Below w.heap.size w w' := by obtain ⟨rfl, hc_⟩ := G.strconv_Atoi_calls a0 r1 r2 w h; exact hc_

def strings_TrimLeft.f (a0 : ByteArray) (a1 : ByteArray) : Option (ByteArray) := G.strings_TrimLeft a0 a1
theorem strings_TrimLeft.calls (a0 : ByteArray) (a1 : ByteArray) (r : ByteArray) (w : World) (h : strings_TrimLeft.f a0 a1 = some r) :
  Calls Tryz.prog 72 #[.string a0, .string a1] w fun e w' => e = .returned (.string r) ∧ Below w.heap.size w w' := G.strings_TrimLeft_calls a0 a1 r w h

end
end Go.Proofs.YtkjpelgdppmbjaaGreatDoor.MFnShows
