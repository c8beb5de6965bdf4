-- by this session's own program mp.py over the kit's printer
import Derived.Test.YtkkohiflkhicpaaMFnExactDivx0
import Derived.Test.YtkkohiflkhicpaaMFnExactDivx1
import Derived.Test.YtkkohiflkhicpaaMFnExactDivx2
import Derived.Test.YtkkohiflkhicpaaMFnExactDivx3
namespace Go.Proofs.Ytkkohiflkhicpaa.MFnExactDiv
open Go.RowKit Go.Proofs.YtkkohiflkhicpaaW.PrintWords Go.Proofs.YtkkohiflkhicpaaW.PrintLast Go.Proofs.YtkkohiflkhicpaaW.PrintMore
attribute [local go_sem] max2_int min2_int max_two min_two max_three min_three max_four min_four   -- for this text's walks alone
set_option linter.unusedVariables false
set_option linter.unusedSimpArgs false

/-! ### spec_Div: function 32 -/
mutual
def spec_Div.j0 : Nat → Bool → Bool → Int → Bool → Int → Int → Int → Bool → Int → Int → Option (Int)
  | 0, _, _, _, _, _, _, _, _, _, _ => none
  | k + 1, x7, x45, x117000, x117001, x117002, x117003, x122000, x122001, x122002, x122003 => if x45 = true then (some 9221120237041090560) else (if x117000 = 2 then (spec_Div.j1 k x7 true x117000 x117001 x117002 x117003 x122000 x122001 x122002 x122003) else (spec_Div.j1 k x7 (x122000 == 3) x117000 x117001 x117002 x117003 x122000 x122001 x122002 x122003))
def spec_Div.j1 : Nat → Bool → Bool → Int → Bool → Int → Int → Int → Bool → Int → Int → Option (Int)
  | 0, _, _, _, _, _, _, _, _, _, _ => none
  | k + 1, x7, x53, x117000, x117001, x117002, x117003, x122000, x122001, x122002, x122003 => if x53 = true then ((spec_l03Sign.f k 9218868437227405312 x7).bind fun t122 => (some t122)) else (if x117000 = 3 then (spec_Div.j2 k x7 true x117000 x117001 x117002 x117003 x122000 x122001 x122002 x122003) else (spec_Div.j2 k x7 (x122000 == 2) x117000 x117001 x117002 x117003 x122000 x122001 x122002 x122003))
def spec_Div.j2 : Nat → Bool → Bool → Int → Bool → Int → Int → Int → Bool → Int → Int → Option (Int)
  | 0, _, _, _, _, _, _, _, _, _, _ => none
  | k + 1, x7, x63, x117000, x117001, x117002, x117003, x122000, x122001, x122002, x122003 => if x63 = true then ((spec_l03Sign.f k 0 x7).bind fun t123 => (some t123)) else ((spec_l05Up.f k x117000 x117001 x117002 x117003).bind fun bt124 => ((spec_l05Up.f k x122000 x122001 x122002 x122003).bind fun bt128 => (spec_Div.l0 k x7 bt124.2.2.1 0 (wrap64 (bt124.2.2.2 - bt128.2.2.2)) 0 bt128.1 bt128.2.1 bt128.2.2.1 bt128.2.2.2)))
def spec_Div.l0 : Nat → Bool → Int → Int → Int → Int → Int → Bool → Int → Int → Option (Int)
  | 0, _, _, _, _, _, _, _, _, _ => none
  | k + 1, x7, x8, x9, x10, x11, x122000, x122001, x122002, x122003 => if x11 < 62 then (if x8 ≥ x122002 then (if x11 > 0 then (spec_Div.l0 k x7 (IntKind.u64.wrap ((IntKind.u64.wrap (x8 - x122002)) * 2)) (IntKind.u64.wrap ((IntKind.u64.wrap (x9 * 2)) + 1)) (wrap64 (x10 - 1)) (wrap64 (x11 + 1)) x122000 x122001 x122002 x122003) else (spec_Div.l0 k x7 (IntKind.u64.wrap ((IntKind.u64.wrap (x8 - x122002)) * 2)) (IntKind.u64.wrap ((IntKind.u64.wrap (x9 * 2)) + 1)) x10 (wrap64 (x11 + 1)) x122000 x122001 x122002 x122003)) else (if x11 > 0 then (spec_Div.l0 k x7 (IntKind.u64.wrap (x8 * 2)) (IntKind.u64.wrap (x9 * 2)) (wrap64 (x10 - 1)) (wrap64 (x11 + 1)) x122000 x122001 x122002 x122003) else (spec_Div.l0 k x7 (IntKind.u64.wrap (x8 * 2)) (IntKind.u64.wrap (x9 * 2)) x10 (wrap64 (x11 + 1)) x122000 x122001 x122002 x122003))) else ((spec_RoundTo.f k x7 x9 x10 (decide (x8 > 0))).bind fun t132 => (some t132))
end
def spec_Div.f (k : Nat) (a0 : Int) (a1 : Int) : Option (Int) := (spec_PartsOfNumber.f k a0).bind fun bt112 => ((spec_PartsOfNumber.f k a1).bind fun bt117 => (if bt112.1 = 1 then (spec_Div.j0 k (bt112.2.1 != bt117.2.1) true bt112.1 bt112.2.1 bt112.2.2.1 bt112.2.2.2 bt117.1 bt117.2.1 bt117.2.2.1 bt117.2.2.2) else (if bt117.1 = 1 then (spec_Div.j0 k (bt112.2.1 != bt117.2.1) true bt112.1 bt112.2.1 bt112.2.2.1 bt112.2.2.2 bt117.1 bt117.2.1 bt117.2.2.1 bt117.2.2.2) else (if bt112.1 = bt117.1 then (if bt112.1 = 2 then (spec_Div.j0 k (bt112.2.1 != bt117.2.1) true bt112.1 bt112.2.1 bt112.2.2.1 bt112.2.2.2 bt117.1 bt117.2.1 bt117.2.2.1 bt117.2.2.2) else (spec_Div.j0 k (bt112.2.1 != bt117.2.1) (bt112.1 == 3) bt112.1 bt112.2.1 bt112.2.2.1 bt112.2.2.2 bt117.1 bt117.2.1 bt117.2.2.1 bt117.2.2.2)) else (spec_Div.j0 k (bt112.2.1 != bt117.2.1) false bt112.1 bt112.2.1 bt112.2.2.1 bt112.2.2.2 bt117.1 bt117.2.1 bt117.2.2.1 bt117.2.2.2)))))
theorem spec_Div.mono_l : ∀ k, (∀ y0 y1 y2 y3 y4 y5 y6 y7 y8 y9, LeO (spec_Div.j0 k y0 y1 y2 y3 y4 y5 y6 y7 y8 y9) (spec_Div.j0 (k + 1) y0 y1 y2 y3 y4 y5 y6 y7 y8 y9)) ∧ (∀ y0 y1 y2 y3 y4 y5 y6 y7 y8 y9, LeO (spec_Div.j1 k y0 y1 y2 y3 y4 y5 y6 y7 y8 y9) (spec_Div.j1 (k + 1) y0 y1 y2 y3 y4 y5 y6 y7 y8 y9)) ∧ (∀ y0 y1 y2 y3 y4 y5 y6 y7 y8 y9, LeO (spec_Div.j2 k y0 y1 y2 y3 y4 y5 y6 y7 y8 y9) (spec_Div.j2 (k + 1) y0 y1 y2 y3 y4 y5 y6 y7 y8 y9)) ∧ (∀ y0 y1 y2 y3 y4 y5 y6 y7 y8, LeO (spec_Div.l0 k y0 y1 y2 y3 y4 y5 y6 y7 y8) (spec_Div.l0 (k + 1) y0 y1 y2 y3 y4 y5 y6 y7 y8))
  | 0 => ⟨fun _ _ _ _ _ _ _ _ _ _ r h => by simp [spec_Div.j0] at h, fun _ _ _ _ _ _ _ _ _ _ r h => by simp [spec_Div.j1] at h, fun _ _ _ _ _ _ _ _ _ _ r h => by simp [spec_Div.j2] at h, fun _ _ _ _ _ _ _ _ _ r h => by simp [spec_Div.l0] at h⟩
  | k + 1 => by
    obtain ⟨ih0, ih1, ih2, ih3⟩ := spec_Div.mono_l k
    refine ⟨?_, ?_, ?_, ?_⟩
    · intro y0 y1 y2 y3 y4 y5 y6 y7 y8 y9
      unfold spec_Div.j0
      repeat' first
      | (with_reducible exact ih0 _ _ _ _ _ _ _ _ _ _)
      | (with_reducible exact ih1 _ _ _ _ _ _ _ _ _ _)
      | (with_reducible exact ih2 _ _ _ _ _ _ _ _ _ _)
      | (with_reducible exact ih3 _ _ _ _ _ _ _ _ _)
      | (with_reducible exact spec_PartsOfNumber.mono _ _)
      | (with_reducible exact spec_RoundTo.mono _ _ _ _ _)
      | (with_reducible exact spec_l03Sign.mono _ _ _)
      | (with_reducible exact spec_l05Up.mono _ _ _ _ _)
      | (with_reducible exact LeO.refl _)
      | (with_reducible exact LeO.none _)
      | (with_reducible refine LeO.ite ?_ ?_)
      | (with_reducible refine LeO.bind ?_ (fun _ => ?_))
      | exact ih0 _ _ _ _ _ _ _ _ _ _
      | exact ih1 _ _ _ _ _ _ _ _ _ _
      | exact ih2 _ _ _ _ _ _ _ _ _ _
      | exact ih3 _ _ _ _ _ _ _ _ _
      | exact spec_PartsOfNumber.mono _ _
      | exact spec_RoundTo.mono _ _ _ _ _
      | exact spec_l03Sign.mono _ _ _
      | exact spec_l05Up.mono _ _ _ _ _
      | exact LeO.none _
      | refine LeO.ite ?_ ?_
      | refine LeO.bind ?_ (fun _ => ?_)
    · intro y0 y1 y2 y3 y4 y5 y6 y7 y8 y9
      unfold spec_Div.j1
      repeat' first
      | (with_reducible exact ih0 _ _ _ _ _ _ _ _ _ _)
      | (with_reducible exact ih1 _ _ _ _ _ _ _ _ _ _)
      | (with_reducible exact ih2 _ _ _ _ _ _ _ _ _ _)
      | (with_reducible exact ih3 _ _ _ _ _ _ _ _ _)
      | (with_reducible exact spec_PartsOfNumber.mono _ _)
      | (with_reducible exact spec_RoundTo.mono _ _ _ _ _)
      | (with_reducible exact spec_l03Sign.mono _ _ _)
      | (with_reducible exact spec_l05Up.mono _ _ _ _ _)
      | (with_reducible exact LeO.refl _)
      | (with_reducible exact LeO.none _)
      | (with_reducible refine LeO.ite ?_ ?_)
      | (with_reducible refine LeO.bind ?_ (fun _ => ?_))
      | exact ih0 _ _ _ _ _ _ _ _ _ _
      | exact ih1 _ _ _ _ _ _ _ _ _ _
      | exact ih2 _ _ _ _ _ _ _ _ _ _
      | exact ih3 _ _ _ _ _ _ _ _ _
      | exact spec_PartsOfNumber.mono _ _
      | exact spec_RoundTo.mono _ _ _ _ _
      | exact spec_l03Sign.mono _ _ _
      | exact spec_l05Up.mono _ _ _ _ _
      | exact LeO.none _
      | refine LeO.ite ?_ ?_
      | refine LeO.bind ?_ (fun _ => ?_)
    · intro y0 y1 y2 y3 y4 y5 y6 y7 y8 y9
      unfold spec_Div.j2
      repeat' first
      | (with_reducible exact ih0 _ _ _ _ _ _ _ _ _ _)
      | (with_reducible exact ih1 _ _ _ _ _ _ _ _ _ _)
      | (with_reducible exact ih2 _ _ _ _ _ _ _ _ _ _)
      | (with_reducible exact ih3 _ _ _ _ _ _ _ _ _)
      | (with_reducible exact spec_PartsOfNumber.mono _ _)
      | (with_reducible exact spec_RoundTo.mono _ _ _ _ _)
      | (with_reducible exact spec_l03Sign.mono _ _ _)
      | (with_reducible exact spec_l05Up.mono _ _ _ _ _)
      | (with_reducible exact LeO.refl _)
      | (with_reducible exact LeO.none _)
      | (with_reducible refine LeO.ite ?_ ?_)
      | (with_reducible refine LeO.bind ?_ (fun _ => ?_))
      | exact ih0 _ _ _ _ _ _ _ _ _ _
      | exact ih1 _ _ _ _ _ _ _ _ _ _
      | exact ih2 _ _ _ _ _ _ _ _ _ _
      | exact ih3 _ _ _ _ _ _ _ _ _
      | exact spec_PartsOfNumber.mono _ _
      | exact spec_RoundTo.mono _ _ _ _ _
      | exact spec_l03Sign.mono _ _ _
      | exact spec_l05Up.mono _ _ _ _ _
      | exact LeO.none _
      | refine LeO.ite ?_ ?_
      | refine LeO.bind ?_ (fun _ => ?_)
    · intro y0 y1 y2 y3 y4 y5 y6 y7 y8
      unfold spec_Div.l0
      repeat' first
      | (with_reducible exact ih0 _ _ _ _ _ _ _ _ _ _)
      | (with_reducible exact ih1 _ _ _ _ _ _ _ _ _ _)
      | (with_reducible exact ih2 _ _ _ _ _ _ _ _ _ _)
      | (with_reducible exact ih3 _ _ _ _ _ _ _ _ _)
      | (with_reducible exact spec_PartsOfNumber.mono _ _)
      | (with_reducible exact spec_RoundTo.mono _ _ _ _ _)
      | (with_reducible exact spec_l03Sign.mono _ _ _)
      | (with_reducible exact spec_l05Up.mono _ _ _ _ _)
      | (with_reducible exact LeO.refl _)
      | (with_reducible exact LeO.none _)
      | (with_reducible refine LeO.ite ?_ ?_)
      | (with_reducible refine LeO.bind ?_ (fun _ => ?_))
      | exact ih0 _ _ _ _ _ _ _ _ _ _
      | exact ih1 _ _ _ _ _ _ _ _ _ _
      | exact ih2 _ _ _ _ _ _ _ _ _ _
      | exact ih3 _ _ _ _ _ _ _ _ _
      | exact spec_PartsOfNumber.mono _ _
      | exact spec_RoundTo.mono _ _ _ _ _
      | exact spec_l03Sign.mono _ _ _
      | exact spec_l05Up.mono _ _ _ _ _
      | exact LeO.none _
      | refine LeO.ite ?_ ?_
      | refine LeO.bind ?_ (fun _ => ?_)
theorem spec_Div.mono : ∀ a0 a1 k, LeO (spec_Div.f k a0 a1) (spec_Div.f (k + 1) a0 a1) := by
  intro a0 a1 k
  obtain ⟨ih0, ih1, ih2, ih3⟩ := spec_Div.mono_l k
  unfold spec_Div.f
  repeat' first
      | (with_reducible exact ih0 _ _ _ _ _ _ _ _ _ _)
      | (with_reducible exact ih1 _ _ _ _ _ _ _ _ _ _)
      | (with_reducible exact ih2 _ _ _ _ _ _ _ _ _ _)
      | (with_reducible exact ih3 _ _ _ _ _ _ _ _ _)
      | (with_reducible exact spec_PartsOfNumber.mono _ _)
      | (with_reducible exact spec_RoundTo.mono _ _ _ _ _)
      | (with_reducible exact spec_l03Sign.mono _ _ _)
      | (with_reducible exact spec_l05Up.mono _ _ _ _ _)
      | (with_reducible exact LeO.refl _)
      | (with_reducible exact LeO.none _)
      | (with_reducible refine LeO.ite ?_ ?_)
      | (with_reducible refine LeO.bind ?_ (fun _ => ?_))
      | exact ih0 _ _ _ _ _ _ _ _ _ _
      | exact ih1 _ _ _ _ _ _ _ _ _ _
      | exact ih2 _ _ _ _ _ _ _ _ _ _
      | exact ih3 _ _ _ _ _ _ _ _ _
      | exact spec_PartsOfNumber.mono _ _
      | exact spec_RoundTo.mono _ _ _ _ _
      | exact spec_l03Sign.mono _ _ _
      | exact spec_l05Up.mono _ _ _ _ _
      | exact LeO.none _
      | refine LeO.ite ?_ ?_
      | refine LeO.bind ?_ (fun _ => ?_)
set_option maxHeartbeats 8000000 in
set_option maxRecDepth 100000 in
theorem spec_Div.calls (k : Nat) (a0 : Int) (a1 : Int) (r : Int) (w : World) (h : spec_Div.f k a0 a1 = some r) :
    Calls Try.prog 32 #[.int .u64 a0, .int .u64 a1] w fun e w' => e = .returned (.int .u64 r) ∧ Below w.heap.size w w' := by
  have hu33 := Try.underlying33
  have HB := Aside0.mk (Below.refl w.heap.size w)
  have H : ((spec_PartsOfNumber.f k a0).bind fun bt112 => ((spec_PartsOfNumber.f k a1).bind fun bt117 => (if bt112.1 = 1 then (spec_Div.j0 k (bt112.2.1 != bt117.2.1) true bt112.1 bt112.2.1 bt112.2.2.1 bt112.2.2.2 bt117.1 bt117.2.1 bt117.2.2.1 bt117.2.2.2) else (if bt117.1 = 1 then (spec_Div.j0 k (bt112.2.1 != bt117.2.1) true bt112.1 bt112.2.1 bt112.2.2.1 bt112.2.2.2 bt117.1 bt117.2.1 bt117.2.2.1 bt117.2.2.2) else (if bt112.1 = bt117.1 then (if bt112.1 = 2 then (spec_Div.j0 k (bt112.2.1 != bt117.2.1) true bt112.1 bt112.2.1 bt112.2.2.1 bt112.2.2.2 bt117.1 bt117.2.1 bt117.2.2.1 bt117.2.2.2) else (spec_Div.j0 k (bt112.2.1 != bt117.2.1) (bt112.1 == 3) bt112.1 bt112.2.1 bt112.2.2.1 bt112.2.2.2 bt117.1 bt117.2.1 bt117.2.2.1 bt117.2.2.2)) else (spec_Div.j0 k (bt112.2.1 != bt117.2.1) false bt112.1 bt112.2.1 bt112.2.2.1 bt112.2.2.2 bt117.1 bt117.2.1 bt117.2.2.1 bt117.2.2.2)))))) = some r := h
  clear h
  replace H := Option.bind_eq_some_iff.mp H
  obtain ⟨⟨t112, t113, t114, t115⟩, A30, H⟩ := H
  replace H : ((spec_PartsOfNumber.f k a1).bind fun bt117 => (if t112 = 1 then (spec_Div.j0 k (t113 != bt117.2.1) true t112 t113 t114 t115 bt117.1 bt117.2.1 bt117.2.2.1 bt117.2.2.2) else (if bt117.1 = 1 then (spec_Div.j0 k (t113 != bt117.2.1) true t112 t113 t114 t115 bt117.1 bt117.2.1 bt117.2.2.1 bt117.2.2.2) else (if t112 = bt117.1 then (if t112 = 2 then (spec_Div.j0 k (t113 != bt117.2.1) true t112 t113 t114 t115 bt117.1 bt117.2.1 bt117.2.2.1 bt117.2.2.2) else (spec_Div.j0 k (t113 != bt117.2.1) (t112 == 3) t112 t113 t114 t115 bt117.1 bt117.2.1 bt117.2.2.1 bt117.2.2.2)) else (spec_Div.j0 k (t113 != bt117.2.1) false t112 t113 t114 t115 bt117.1 bt117.2.1 bt117.2.2.1 bt117.2.2.2))))) = some r := H
  have A3 := Aside0.mk A30
  clear A30
  replace H := Option.bind_eq_some_iff.mp H
  obtain ⟨⟨t117, t118, t119, t120⟩, A40, H⟩ := H
  replace H : (if t112 = 1 then (spec_Div.j0 k (t113 != t118) true t112 t113 t114 t115 t117 t118 t119 t120) else (if t117 = 1 then (spec_Div.j0 k (t113 != t118) true t112 t113 t114 t115 t117 t118 t119 t120) else (if t112 = t117 then (if t112 = 2 then (spec_Div.j0 k (t113 != t118) true t112 t113 t114 t115 t117 t118 t119 t120) else (spec_Div.j0 k (t113 != t118) (t112 == 3) t112 t113 t114 t115 t117 t118 t119 t120)) else (spec_Div.j0 k (t113 != t118) false t112 t113 t114 t115 t117 t118 t119 t120)))) = some r := H
  have A4 := Aside0.mk A40
  clear A40
  have HC5 := Aside0.mk H
  clear H
  go_enter Try.func32, Try.ntmps32
  go_upto_region 4 with (first | ((with_reducible refine gate_callee (f := 38) rfl ?_); refine goesL_ (some 13) rfl rfl Try.func38 (by kernel_rfl) rfl #[.int .u64 a0] rfl (by (try simp only [List.map_toArray, List.map_cons, List.map_nil]); first | done | rfl | (simp only [List.length_drop, List.length_take]; rfl)) ?_; (with_reducible refine (spec_PartsOfNumber.calls k a0 t112 t113 t114 t115 _ A3.out).mono ?_); rintro e w6 ⟨rfl, hb⟩; refine ⟨_, rfl, ?_⟩; have n0_ := Aside0.mk (below_step (by repeat (first | (with_reducible first | exact HB.out | apply below_alloc | apply pw_below_drewN | apply below_drew1) | exact HB.out)) hb); clear HB; have HB := n0_; clear n0_; (try clear hb); (try clear hb2); (try clear hk); (try clear hi)) | ((with_reducible refine gate_dst (N := 5) rfl ?_); refine box_event ?hg (N := 5) ?hd (cs := #[.int .i64 0, .bool false, .int .u64 0, .int .i64 0]) (t := 33) ?hr ?_; (case hd => rfl); (case hg => rfl); (case hr => first | (go_simp; done) | (go_simp; rfl)); intro gb116 hg w7 hbox hb; have n0_ := Aside0.mk (below_step (by repeat (first | (with_reducible first | exact HB.out | apply below_alloc | apply pw_below_drewN | apply below_drew1) | exact HB.out)) hb); have n1_ := Aside0.mk (hbox); have n2_ := Aside0.mk ((by rw [hg]; exact (below_size (by repeat (first | (with_reducible first | exact HB.out | apply below_alloc | apply pw_below_drewN | apply below_drew1) | exact HB.out))) : w.heap.size ≤ gb116)); have n3_ := Aside0.mk ((by rw [hg]; exact (below_size (by repeat (first | (with_reducible first | exact HB.out | apply below_alloc | apply pw_below_drewN | apply below_drew1) | exact HB.out))) : w.heap.size ≤ gb116)); clear HB; have HB := n0_; have BK116 := n1_; have GW116 := n2_; have GE116 := n3_; clear n0_ n1_ n2_ n3_; clear hb hbox hg; have hcz8_0 : w7.cell? ⟨gb116, 0, none⟩ = some (.int .i64 0) := (blk_cell BK116.out 0).trans rfl; have hcz8_1 : w7.cell? ⟨gb116, 1, none⟩ = some (.bool false) := (blk_cell BK116.out 1).trans rfl; have hcz8_2 : w7.cell? ⟨gb116, 2, none⟩ = some (.int .u64 0) := (blk_cell BK116.out 2).trans rfl; have hcz8_3 : w7.cell? ⟨gb116, 3, none⟩ = some (.int .i64 0) := (blk_cell BK116.out 3).trans rfl; have hfz8_0 := blk_frozen BK116.out 0; have hfz8_1 := blk_frozen BK116.out 1; have hfz8_2 := blk_frozen BK116.out 2; have hfz8_3 := blk_frozen BK116.out 3) | ((with_reducible refine gate_callee (f := 38) rfl ?_); refine goesL_ (some 15) rfl rfl Try.func38 (by kernel_rfl) rfl #[.int .u64 a1] rfl (by (try simp only [List.map_toArray, List.map_cons, List.map_nil]); first | done | rfl | (simp only [List.length_drop, List.length_take]; rfl)) ?_; (with_reducible refine (spec_PartsOfNumber.calls k a1 t117 t118 t119 t120 _ A4.out).mono ?_); rintro e w9 ⟨rfl, hb⟩; refine ⟨_, rfl, ?_⟩; have n0_ := Aside0.mk (blk_below (g := gb116) (o := .cells #[.int .i64 t112, .bool t113, .int .u64 t114, .int .i64 t115] 33 (0, 0)) (by (with_reducible repeat (first | refine blk_drewN ?_ _ | refine blk_drew ?_ | refine blk_alloc ?_ _)); refine blk_put (cs := #[.int .i64 t112, .bool t113, .int .u64 t114, .int .i64 0]) ?_ 3 _ rfl; (with_reducible repeat (first | refine blk_drewN ?_ _ | refine blk_drew ?_ | refine blk_alloc ?_ _)); refine blk_put (cs := #[.int .i64 t112, .bool t113, .int .u64 0, .int .i64 0]) ?_ 2 _ rfl; (with_reducible repeat (first | refine blk_drewN ?_ _ | refine blk_drew ?_ | refine blk_alloc ?_ _)); refine blk_put (cs := #[.int .i64 t112, .bool false, .int .u64 0, .int .i64 0]) ?_ 1 _ rfl; (with_reducible repeat (first | refine blk_drewN ?_ _ | refine blk_drew ?_ | refine blk_alloc ?_ _)); refine blk_put (cs := #[.int .i64 0, .bool false, .int .u64 0, .int .i64 0]) ?_ 0 _ rfl; (with_reducible repeat (first | refine blk_drewN ?_ _ | refine blk_drew ?_ | refine blk_alloc ?_ _)); exact BK116.out) hb); have n1_ := Aside0.mk (below_step (by repeat (first | (with_reducible first | exact HB.out | apply below_alloc | apply pw_below_drewN | apply below_drew1 | refine below_set ?_ GE116.out) | exact HB.out)) hb); clear BK116; clear HB; have BK116 := n0_; have HB := n1_; clear n0_ n1_; (try clear hb); (try clear hb2); (try clear hk); (try clear hi)) | ((with_reducible refine gate_dst (N := 6) rfl ?_); refine box_event ?hg (N := 6) ?hd (cs := #[.int .i64 0, .bool false, .int .u64 0, .int .i64 0]) (t := 33) ?hr ?_; (case hd => rfl); (case hg => rfl); (case hr => first | (go_simp; done) | (go_simp; rfl)); intro gb121 hg w10 hbox hb; have n0_ := Aside0.mk (blk_below (g := gb116) (o := .cells #[.int .i64 t112, .bool t113, .int .u64 t114, .int .i64 t115] 33 (0, 0)) (by (with_reducible repeat (first | refine blk_drewN ?_ _ | refine blk_drew ?_ | refine blk_alloc ?_ _)); exact BK116.out) hb); have n1_ := Aside0.mk (below_step (by repeat (first | (with_reducible first | exact HB.out | apply below_alloc | apply pw_below_drewN | apply below_drew1 | refine below_set ?_ GE116.out) | exact HB.out)) hb); have n2_ := Aside0.mk (hbox); have n3_ := Aside0.mk ((by rw [hg]; exact (below_size (by repeat (first | (with_reducible first | exact HB.out | apply below_alloc | apply pw_below_drewN | apply below_drew1 | refine below_set ?_ GE116.out) | exact HB.out))) : w.heap.size ≤ gb121)); have n4_ := Aside0.mk ((by rw [hg]; exact (below_size (by repeat (first | (with_reducible first | exact HB.out | apply below_alloc | apply pw_below_drewN | apply below_drew1 | refine below_set ?_ GE116.out) | exact HB.out))) : w.heap.size ≤ gb121)); have n5_ := Aside0.mk ((by rw [hg]; exact Nat.ne_of_lt (blk_lt (g := gb116) (o := .cells #[.int .i64 t112, .bool t113, .int .u64 t114, .int .i64 t115] 33 (0, 0)) (by (with_reducible repeat (first | refine blk_drewN ?_ _ | refine blk_drew ?_ | refine blk_alloc ?_ _)); exact BK116.out)) : gb116 ≠ gb121)); have n6_ := Aside0.mk ((by rw [hg]; exact Nat.ne_of_gt (blk_lt (g := gb116) (o := .cells #[.int .i64 t112, .bool t113, .int .u64 t114, .int .i64 t115] 33 (0, 0)) (by (with_reducible repeat (first | refine blk_drewN ?_ _ | refine blk_drew ?_ | refine blk_alloc ?_ _)); exact BK116.out)) : gb121 ≠ gb116)); clear BK116; clear HB; have BK116 := n0_; have HB := n1_; have BK121 := n2_; have GW121 := n3_; have GE121 := n4_; have NB116_121 := n5_; have NB121_116 := n6_; clear n0_ n1_ n2_ n3_ n4_ n5_ n6_; clear hb hbox hg; have hnb11 := NB121_116.out; have hnc11 := NB116_121.out; have hcz12_0 : w10.cell? ⟨gb121, 0, none⟩ = some (.int .i64 0) := (blk_cell BK121.out 0).trans rfl; have hcz12_1 : w10.cell? ⟨gb121, 1, none⟩ = some (.bool false) := (blk_cell BK121.out 1).trans rfl; have hcz12_2 : w10.cell? ⟨gb121, 2, none⟩ = some (.int .u64 0) := (blk_cell BK121.out 2).trans rfl; have hcz12_3 : w10.cell? ⟨gb121, 3, none⟩ = some (.int .i64 0) := (blk_cell BK121.out 3).trans rfl; have hfz12_0 := blk_frozen BK121.out 0; have hfz12_1 := blk_frozen BK121.out 1; have hfz12_2 := blk_frozen BK121.out 2; have hfz12_3 := blk_frozen BK121.out 3; have hcz13_0 : w10.cell? ⟨gb116, 0, none⟩ = some (.int .i64 t112) := (blk_cell BK116.out 0).trans rfl; have hcz13_1 : w10.cell? ⟨gb116, 1, none⟩ = some (.bool t113) := (blk_cell BK116.out 1).trans rfl; have hcz13_2 : w10.cell? ⟨gb116, 2, none⟩ = some (.int .u64 t114) := (blk_cell BK116.out 2).trans rfl; have hcz13_3 : w10.cell? ⟨gb116, 3, none⟩ = some (.int .i64 t115) := (blk_cell BK116.out 3).trans rfl; have hfz13_0 := blk_frozen BK116.out 0; have hfz13_1 := blk_frozen BK116.out 1; have hfz13_2 := blk_frozen BK116.out 2; have hfz13_3 := blk_frozen BK116.out 3))
  (try simp only [Act.put, List.setIfInBounds_toArray, List.set_cons_zero, List.set_cons_succ])
  go_cut [45] (fun v45 wc => ∃ (kq : Nat) (x45_4 : Bool), v45 = .bool x45_4 ∧ Aside0 (spec_Div.j0 kq (t113 != t118) x45_4 t112 t113 t114 t115 t117 t118 t119 t120 = some r) ∧ Aside0 (kq ≤ k) ∧ Aside0 (wc.heap[gb116]? = some (.cells #[.int .i64 t112, .bool t113, .int .u64 t114, .int .i64 t115] 33 (0, 0))) ∧ Aside0 (wc.heap[gb121]? = some (.cells #[.int .i64 t117, .bool t118, .int .u64 t119, .int .i64 t120] 33 (0, 0))) ∧ Aside0 (Below w.heap.size w wc))
  case first =>
    have H := HC5.out
    clear HC5
    by_cases c14 : t112 = 1
    · rw [if_pos c14] at H
      have c14b0 : (t112 == 1) = true := beq_iff_eq.mpr c14
      have c14b1 : (t112 != 1) = false := bne_eq_false_iff_eq.mpr c14
      clear c14
      (first | rw [c14b0] | (simp only [i64_w, i32_w]; rw [c14b0]) | skip)
      have H' := Aside0.mk H
      clear H
      have hnb15 := NB116_121.out
      have hnc15 := NB121_116.out
      have hcz16_0 : w10.cell? ⟨gb116, 0, none⟩ = some (.int .i64 t112) := (blk_cell BK116.out 0).trans rfl
      have hcz16_1 : w10.cell? ⟨gb116, 1, none⟩ = some (.bool t113) := (blk_cell BK116.out 1).trans rfl
      have hcz16_2 : w10.cell? ⟨gb116, 2, none⟩ = some (.int .u64 t114) := (blk_cell BK116.out 2).trans rfl
      have hcz16_3 : w10.cell? ⟨gb116, 3, none⟩ = some (.int .i64 t115) := (blk_cell BK116.out 3).trans rfl
      have hfz16_0 := blk_frozen BK116.out 0
      have hfz16_1 := blk_frozen BK116.out 1
      have hfz16_2 := blk_frozen BK116.out 2
      have hfz16_3 := blk_frozen BK116.out 3
      go_wp2
      go_meet
      case rel => exact ⟨_, (true), (by first | rfl | (refine congrArg Ending.returned (congrArg (Value.int .i64) (?_ : (0 : Int) = _)); decide +kernel) | (simp; done) | (simp [*]; done)), H', ⟨by first | omega | exact Nat.le_refl _⟩, ⟨by (with_reducible repeat (first | refine blk_drewN ?_ _ | refine blk_drew ?_ | refine blk_alloc ?_ _)); refine blk_far ?_ NB116_121.out _; (with_reducible repeat (first | refine blk_drewN ?_ _ | refine blk_drew ?_ | refine blk_alloc ?_ _)); refine blk_far ?_ NB116_121.out _; (with_reducible repeat (first | refine blk_drewN ?_ _ | refine blk_drew ?_ | refine blk_alloc ?_ _)); refine blk_far ?_ NB116_121.out _; (with_reducible repeat (first | refine blk_drewN ?_ _ | refine blk_drew ?_ | refine blk_alloc ?_ _)); refine blk_far ?_ NB116_121.out _; (with_reducible repeat (first | refine blk_drewN ?_ _ | refine blk_drew ?_ | refine blk_alloc ?_ _)); exact BK116.out⟩, ⟨by (with_reducible repeat (first | refine blk_drewN ?_ _ | refine blk_drew ?_ | refine blk_alloc ?_ _)); refine blk_put (cs := #[.int .i64 t117, .bool t118, .int .u64 t119, .int .i64 0]) ?_ 3 _ rfl; (with_reducible repeat (first | refine blk_drewN ?_ _ | refine blk_drew ?_ | refine blk_alloc ?_ _)); refine blk_put (cs := #[.int .i64 t117, .bool t118, .int .u64 0, .int .i64 0]) ?_ 2 _ rfl; (with_reducible repeat (first | refine blk_drewN ?_ _ | refine blk_drew ?_ | refine blk_alloc ?_ _)); refine blk_put (cs := #[.int .i64 t117, .bool false, .int .u64 0, .int .i64 0]) ?_ 1 _ rfl; (with_reducible repeat (first | refine blk_drewN ?_ _ | refine blk_drew ?_ | refine blk_alloc ?_ _)); refine blk_put (cs := #[.int .i64 0, .bool false, .int .u64 0, .int .i64 0]) ?_ 0 _ rfl; (with_reducible repeat (first | refine blk_drewN ?_ _ | refine blk_drew ?_ | refine blk_alloc ?_ _)); exact BK121.out⟩, ⟨by repeat (first | (with_reducible first | exact HB.out | apply below_alloc | apply pw_below_drewN | apply below_drew1 | refine below_set ?_ GE116.out | refine below_set ?_ GE121.out) | exact HB.out)⟩⟩
    · rw [if_neg c14] at H
      have c14b0 : (t112 == 1) = false := beq_eq_false_iff_ne.mpr c14
      have c14b1 : (t112 != 1) = true := bne_iff_ne.mpr c14
      (first | rw [c14b0] | (simp only [i64_w, i32_w]; rw [c14b0]) | skip)
      by_cases c17 : t117 = 1
      · rw [if_pos c17] at H
        have c17b0 : (t117 == 1) = true := beq_iff_eq.mpr c17
        have c17b1 : (t117 != 1) = false := bne_eq_false_iff_eq.mpr c17
        clear c17
        have H' := Aside0.mk H
        clear H
        have hnb18 := NB116_121.out
        have hnc18 := NB121_116.out
        have hcz19_0 : w10.cell? ⟨gb116, 0, none⟩ = some (.int .i64 t112) := (blk_cell BK116.out 0).trans rfl
        have hcz19_1 : w10.cell? ⟨gb116, 1, none⟩ = some (.bool t113) := (blk_cell BK116.out 1).trans rfl
        have hcz19_2 : w10.cell? ⟨gb116, 2, none⟩ = some (.int .u64 t114) := (blk_cell BK116.out 2).trans rfl
        have hcz19_3 : w10.cell? ⟨gb116, 3, none⟩ = some (.int .i64 t115) := (blk_cell BK116.out 3).trans rfl
        have hfz19_0 := blk_frozen BK116.out 0
        have hfz19_1 := blk_frozen BK116.out 1
        have hfz19_2 := blk_frozen BK116.out 2
        have hfz19_3 := blk_frozen BK116.out 3
        have hcz20_0 : w10.cell? ⟨gb121, 0, none⟩ = some (.int .i64 0) := (blk_cell BK121.out 0).trans rfl
        have hcz20_1 : w10.cell? ⟨gb121, 1, none⟩ = some (.bool false) := (blk_cell BK121.out 1).trans rfl
        have hcz20_2 : w10.cell? ⟨gb121, 2, none⟩ = some (.int .u64 0) := (blk_cell BK121.out 2).trans rfl
        have hcz20_3 : w10.cell? ⟨gb121, 3, none⟩ = some (.int .i64 0) := (blk_cell BK121.out 3).trans rfl
        have hfz20_0 := blk_frozen BK121.out 0
        have hfz20_1 := blk_frozen BK121.out 1
        have hfz20_2 := blk_frozen BK121.out 2
        have hfz20_3 := blk_frozen BK121.out 3
        go_wp2
        go_meet
        case rel => exact ⟨_, (true), (by first | rfl | (refine congrArg Ending.returned (congrArg (Value.int .i64) (?_ : (0 : Int) = _)); decide +kernel) | (simp; done) | (simp [*]; done)), H', ⟨by first | omega | exact Nat.le_refl _⟩, ⟨by (with_reducible repeat (first | refine blk_drewN ?_ _ | refine blk_drew ?_ | refine blk_alloc ?_ _)); refine blk_far ?_ NB116_121.out _; (with_reducible repeat (first | refine blk_drewN ?_ _ | refine blk_drew ?_ | refine blk_alloc ?_ _)); refine blk_far ?_ NB116_121.out _; (with_reducible repeat (first | refine blk_drewN ?_ _ | refine blk_drew ?_ | refine blk_alloc ?_ _)); refine blk_far ?_ NB116_121.out _; (with_reducible repeat (first | refine blk_drewN ?_ _ | refine blk_drew ?_ | refine blk_alloc ?_ _)); refine blk_far ?_ NB116_121.out _; (with_reducible repeat (first | refine blk_drewN ?_ _ | refine blk_drew ?_ | refine blk_alloc ?_ _)); exact BK116.out⟩, ⟨by (with_reducible repeat (first | refine blk_drewN ?_ _ | refine blk_drew ?_ | refine blk_alloc ?_ _)); refine blk_put (cs := #[.int .i64 t117, .bool t118, .int .u64 t119, .int .i64 0]) ?_ 3 _ rfl; (with_reducible repeat (first | refine blk_drewN ?_ _ | refine blk_drew ?_ | refine blk_alloc ?_ _)); refine blk_put (cs := #[.int .i64 t117, .bool t118, .int .u64 0, .int .i64 0]) ?_ 2 _ rfl; (with_reducible repeat (first | refine blk_drewN ?_ _ | refine blk_drew ?_ | refine blk_alloc ?_ _)); refine blk_put (cs := #[.int .i64 t117, .bool false, .int .u64 0, .int .i64 0]) ?_ 1 _ rfl; (with_reducible repeat (first | refine blk_drewN ?_ _ | refine blk_drew ?_ | refine blk_alloc ?_ _)); refine blk_put (cs := #[.int .i64 0, .bool false, .int .u64 0, .int .i64 0]) ?_ 0 _ rfl; (with_reducible repeat (first | refine blk_drewN ?_ _ | refine blk_drew ?_ | refine blk_alloc ?_ _)); exact BK121.out⟩, ⟨by repeat (first | (with_reducible first | exact HB.out | apply below_alloc | apply pw_below_drewN | apply below_drew1 | refine below_set ?_ GE116.out | refine below_set ?_ GE121.out) | exact HB.out)⟩⟩
      · rw [if_neg c17] at H
        have c17b0 : (t117 == 1) = false := beq_eq_false_iff_ne.mpr c17
        have c17b1 : (t117 != 1) = true := bne_iff_ne.mpr c17
        by_cases c21 : t112 = t117
        · rw [if_pos c21] at H
          have c21b0 : (t112 == t117) = true := beq_iff_eq.mpr c21
          have c21b1 : (t112 != t117) = false := bne_eq_false_iff_eq.mpr c21
          clear c21
          by_cases c22 : t112 = 2
          · rw [if_pos c22] at H
            have c22b0 : (t112 == 2) = true := beq_iff_eq.mpr c22
            have c22b1 : (t112 != 2) = false := bne_eq_false_iff_eq.mpr c22
            clear c22
            have H' := Aside0.mk H
            clear H
            have hnb23 := NB116_121.out
            have hnc23 := NB121_116.out
            have hcz24_0 : w10.cell? ⟨gb116, 0, none⟩ = some (.int .i64 t112) := (blk_cell BK116.out 0).trans rfl
            have hcz24_1 : w10.cell? ⟨gb116, 1, none⟩ = some (.bool t113) := (blk_cell BK116.out 1).trans rfl
            have hcz24_2 : w10.cell? ⟨gb116, 2, none⟩ = some (.int .u64 t114) := (blk_cell BK116.out 2).trans rfl
            have hcz24_3 : w10.cell? ⟨gb116, 3, none⟩ = some (.int .i64 t115) := (blk_cell BK116.out 3).trans rfl
            have hfz24_0 := blk_frozen BK116.out 0
            have hfz24_1 := blk_frozen BK116.out 1
            have hfz24_2 := blk_frozen BK116.out 2
            have hfz24_3 := blk_frozen BK116.out 3
            have hcz25_0 : w10.cell? ⟨gb121, 0, none⟩ = some (.int .i64 0) := (blk_cell BK121.out 0).trans rfl
            have hcz25_1 : w10.cell? ⟨gb121, 1, none⟩ = some (.bool false) := (blk_cell BK121.out 1).trans rfl
            have hcz25_2 : w10.cell? ⟨gb121, 2, none⟩ = some (.int .u64 0) := (blk_cell BK121.out 2).trans rfl
            have hcz25_3 : w10.cell? ⟨gb121, 3, none⟩ = some (.int .i64 0) := (blk_cell BK121.out 3).trans rfl
            have hfz25_0 := blk_frozen BK121.out 0
            have hfz25_1 := blk_frozen BK121.out 1
            have hfz25_2 := blk_frozen BK121.out 2
            have hfz25_3 := blk_frozen BK121.out 3
            go_wp2
            go_meet
            case rel => exact ⟨_, (true), (by first | rfl | (refine congrArg Ending.returned (congrArg (Value.int .i64) (?_ : (0 : Int) = _)); decide +kernel) | (simp; done) | (simp [*]; done)), H', ⟨by first | omega | exact Nat.le_refl _⟩, ⟨by (with_reducible repeat (first | refine blk_drewN ?_ _ | refine blk_drew ?_ | refine blk_alloc ?_ _)); refine blk_far ?_ NB116_121.out _; (with_reducible repeat (first | refine blk_drewN ?_ _ | refine blk_drew ?_ | refine blk_alloc ?_ _)); refine blk_far ?_ NB116_121.out _; (with_reducible repeat (first | refine blk_drewN ?_ _ | refine blk_drew ?_ | refine blk_alloc ?_ _)); refine blk_far ?_ NB116_121.out _; (with_reducible repeat (first | refine blk_drewN ?_ _ | refine blk_drew ?_ | refine blk_alloc ?_ _)); refine blk_far ?_ NB116_121.out _; (with_reducible repeat (first | refine blk_drewN ?_ _ | refine blk_drew ?_ | refine blk_alloc ?_ _)); exact BK116.out⟩, ⟨by (with_reducible repeat (first | refine blk_drewN ?_ _ | refine blk_drew ?_ | refine blk_alloc ?_ _)); refine blk_put (cs := #[.int .i64 t117, .bool t118, .int .u64 t119, .int .i64 0]) ?_ 3 _ rfl; (with_reducible repeat (first | refine blk_drewN ?_ _ | refine blk_drew ?_ | refine blk_alloc ?_ _)); refine blk_put (cs := #[.int .i64 t117, .bool t118, .int .u64 0, .int .i64 0]) ?_ 2 _ rfl; (with_reducible repeat (first | refine blk_drewN ?_ _ | refine blk_drew ?_ | refine blk_alloc ?_ _)); refine blk_put (cs := #[.int .i64 t117, .bool false, .int .u64 0, .int .i64 0]) ?_ 1 _ rfl; (with_reducible repeat (first | refine blk_drewN ?_ _ | refine blk_drew ?_ | refine blk_alloc ?_ _)); refine blk_put (cs := #[.int .i64 0, .bool false, .int .u64 0, .int .i64 0]) ?_ 0 _ rfl; (with_reducible repeat (first | refine blk_drewN ?_ _ | refine blk_drew ?_ | refine blk_alloc ?_ _)); exact BK121.out⟩, ⟨by repeat (first | (with_reducible first | exact HB.out | apply below_alloc | apply pw_below_drewN | apply below_drew1 | refine below_set ?_ GE116.out | refine below_set ?_ GE121.out) | exact HB.out)⟩⟩
          · rw [if_neg c22] at H
            have c22b0 : (t112 == 2) = false := beq_eq_false_iff_ne.mpr c22
            have c22b1 : (t112 != 2) = true := bne_iff_ne.mpr c22
            have H' := Aside0.mk H
            clear H
            have hnb26 := NB116_121.out
            have hnc26 := NB121_116.out
            have hcz27_0 : w10.cell? ⟨gb116, 0, none⟩ = some (.int .i64 t112) := (blk_cell BK116.out 0).trans rfl
            have hcz27_1 : w10.cell? ⟨gb116, 1, none⟩ = some (.bool t113) := (blk_cell BK116.out 1).trans rfl
            have hcz27_2 : w10.cell? ⟨gb116, 2, none⟩ = some (.int .u64 t114) := (blk_cell BK116.out 2).trans rfl
            have hcz27_3 : w10.cell? ⟨gb116, 3, none⟩ = some (.int .i64 t115) := (blk_cell BK116.out 3).trans rfl
            have hfz27_0 := blk_frozen BK116.out 0
            have hfz27_1 := blk_frozen BK116.out 1
            have hfz27_2 := blk_frozen BK116.out 2
            have hfz27_3 := blk_frozen BK116.out 3
            have hcz28_0 : w10.cell? ⟨gb121, 0, none⟩ = some (.int .i64 0) := (blk_cell BK121.out 0).trans rfl
            have hcz28_1 : w10.cell? ⟨gb121, 1, none⟩ = some (.bool false) := (blk_cell BK121.out 1).trans rfl
            have hcz28_2 : w10.cell? ⟨gb121, 2, none⟩ = some (.int .u64 0) := (blk_cell BK121.out 2).trans rfl
            have hcz28_3 : w10.cell? ⟨gb121, 3, none⟩ = some (.int .i64 0) := (blk_cell BK121.out 3).trans rfl
            have hfz28_0 := blk_frozen BK121.out 0
            have hfz28_1 := blk_frozen BK121.out 1
            have hfz28_2 := blk_frozen BK121.out 2
            have hfz28_3 := blk_frozen BK121.out 3
            go_wp2
            go_meet
            case rel => exact ⟨_, ((t112 == 3)), (by first | rfl | (refine congrArg Ending.returned (congrArg (Value.int .i64) (?_ : (0 : Int) = _)); decide +kernel) | (simp; done) | (simp [*]; done)), H', ⟨by first | omega | exact Nat.le_refl _⟩, ⟨by (with_reducible repeat (first | refine blk_drewN ?_ _ | refine blk_drew ?_ | refine blk_alloc ?_ _)); refine blk_far ?_ NB116_121.out _; (with_reducible repeat (first | refine blk_drewN ?_ _ | refine blk_drew ?_ | refine blk_alloc ?_ _)); refine blk_far ?_ NB116_121.out _; (with_reducible repeat (first | refine blk_drewN ?_ _ | refine blk_drew ?_ | refine blk_alloc ?_ _)); refine blk_far ?_ NB116_121.out _; (with_reducible repeat (first | refine blk_drewN ?_ _ | refine blk_drew ?_ | refine blk_alloc ?_ _)); refine blk_far ?_ NB116_121.out _; (with_reducible repeat (first | refine blk_drewN ?_ _ | refine blk_drew ?_ | refine blk_alloc ?_ _)); exact BK116.out⟩, ⟨by (with_reducible repeat (first | refine blk_drewN ?_ _ | refine blk_drew ?_ | refine blk_alloc ?_ _)); refine blk_put (cs := #[.int .i64 t117, .bool t118, .int .u64 t119, .int .i64 0]) ?_ 3 _ rfl; (with_reducible repeat (first | refine blk_drewN ?_ _ | refine blk_drew ?_ | refine blk_alloc ?_ _)); refine blk_put (cs := #[.int .i64 t117, .bool t118, .int .u64 0, .int .i64 0]) ?_ 2 _ rfl; (with_reducible repeat (first | refine blk_drewN ?_ _ | refine blk_drew ?_ | refine blk_alloc ?_ _)); refine blk_put (cs := #[.int .i64 t117, .bool false, .int .u64 0, .int .i64 0]) ?_ 1 _ rfl; (with_reducible repeat (first | refine blk_drewN ?_ _ | refine blk_drew ?_ | refine blk_alloc ?_ _)); refine blk_put (cs := #[.int .i64 0, .bool false, .int .u64 0, .int .i64 0]) ?_ 0 _ rfl; (with_reducible repeat (first | refine blk_drewN ?_ _ | refine blk_drew ?_ | refine blk_alloc ?_ _)); exact BK121.out⟩, ⟨by repeat (first | (with_reducible first | exact HB.out | apply below_alloc | apply pw_below_drewN | apply below_drew1 | refine below_set ?_ GE116.out | refine below_set ?_ GE121.out) | exact HB.out)⟩⟩
        · rw [if_neg c21] at H
          have c21b0 : (t112 == t117) = false := beq_eq_false_iff_ne.mpr c21
          have c21b1 : (t112 != t117) = true := bne_iff_ne.mpr c21
          have H' := Aside0.mk H
          clear H
          have hnb29 := NB116_121.out
          have hnc29 := NB121_116.out
          have hcz30_0 : w10.cell? ⟨gb116, 0, none⟩ = some (.int .i64 t112) := (blk_cell BK116.out 0).trans rfl
          have hcz30_1 : w10.cell? ⟨gb116, 1, none⟩ = some (.bool t113) := (blk_cell BK116.out 1).trans rfl
          have hcz30_2 : w10.cell? ⟨gb116, 2, none⟩ = some (.int .u64 t114) := (blk_cell BK116.out 2).trans rfl
          have hcz30_3 : w10.cell? ⟨gb116, 3, none⟩ = some (.int .i64 t115) := (blk_cell BK116.out 3).trans rfl
          have hfz30_0 := blk_frozen BK116.out 0
          have hfz30_1 := blk_frozen BK116.out 1
          have hfz30_2 := blk_frozen BK116.out 2
          have hfz30_3 := blk_frozen BK116.out 3
          have hcz31_0 : w10.cell? ⟨gb121, 0, none⟩ = some (.int .i64 0) := (blk_cell BK121.out 0).trans rfl
          have hcz31_1 : w10.cell? ⟨gb121, 1, none⟩ = some (.bool false) := (blk_cell BK121.out 1).trans rfl
          have hcz31_2 : w10.cell? ⟨gb121, 2, none⟩ = some (.int .u64 0) := (blk_cell BK121.out 2).trans rfl
          have hcz31_3 : w10.cell? ⟨gb121, 3, none⟩ = some (.int .i64 0) := (blk_cell BK121.out 3).trans rfl
          have hfz31_0 := blk_frozen BK121.out 0
          have hfz31_1 := blk_frozen BK121.out 1
          have hfz31_2 := blk_frozen BK121.out 2
          have hfz31_3 := blk_frozen BK121.out 3
          go_wp2
          go_meet
          case rel => exact ⟨_, (false), (by first | rfl | (refine congrArg Ending.returned (congrArg (Value.int .i64) (?_ : (0 : Int) = _)); decide +kernel) | (simp; done) | (simp [*]; done)), H', ⟨by first | omega | exact Nat.le_refl _⟩, ⟨by (with_reducible repeat (first | refine blk_drewN ?_ _ | refine blk_drew ?_ | refine blk_alloc ?_ _)); refine blk_far ?_ NB116_121.out _; (with_reducible repeat (first | refine blk_drewN ?_ _ | refine blk_drew ?_ | refine blk_alloc ?_ _)); refine blk_far ?_ NB116_121.out _; (with_reducible repeat (first | refine blk_drewN ?_ _ | refine blk_drew ?_ | refine blk_alloc ?_ _)); refine blk_far ?_ NB116_121.out _; (with_reducible repeat (first | refine blk_drewN ?_ _ | refine blk_drew ?_ | refine blk_alloc ?_ _)); refine blk_far ?_ NB116_121.out _; (with_reducible repeat (first | refine blk_drewN ?_ _ | refine blk_drew ?_ | refine blk_alloc ?_ _)); exact BK116.out⟩, ⟨by (with_reducible repeat (first | refine blk_drewN ?_ _ | refine blk_drew ?_ | refine blk_alloc ?_ _)); refine blk_put (cs := #[.int .i64 t117, .bool t118, .int .u64 t119, .int .i64 0]) ?_ 3 _ rfl; (with_reducible repeat (first | refine blk_drewN ?_ _ | refine blk_drew ?_ | refine blk_alloc ?_ _)); refine blk_put (cs := #[.int .i64 t117, .bool t118, .int .u64 0, .int .i64 0]) ?_ 2 _ rfl; (with_reducible repeat (first | refine blk_drewN ?_ _ | refine blk_drew ?_ | refine blk_alloc ?_ _)); refine blk_put (cs := #[.int .i64 t117, .bool false, .int .u64 0, .int .i64 0]) ?_ 1 _ rfl; (with_reducible repeat (first | refine blk_drewN ?_ _ | refine blk_drew ?_ | refine blk_alloc ?_ _)); refine blk_put (cs := #[.int .i64 0, .bool false, .int .u64 0, .int .i64 0]) ?_ 0 _ rfl; (with_reducible repeat (first | refine blk_drewN ?_ _ | refine blk_drew ?_ | refine blk_alloc ?_ _)); exact BK121.out⟩, ⟨by repeat (first | (with_reducible first | exact HB.out | apply below_alloc | apply pw_below_drewN | apply below_drew1 | refine below_set ?_ GE116.out | refine below_set ?_ GE121.out) | exact HB.out)⟩⟩
  case rest =>
    clear HC5
    try clear c1
    try clear c2
    try clear p2
    try clear c3
    try clear c11
    try clear c14
    try clear c14b0
    try clear c14b1
    try clear c15
    try clear c17
    try clear c17b0
    try clear c17b1
    try clear c18
    try clear c21
    try clear c21b0
    try clear c21b1
    try clear c22
    try clear c22b0
    try clear c22b1
    try clear c23
    try clear c26
    try clear c29
    try clear hcz12_0
    try clear hcz12_1
    try clear hcz12_2
    try clear hcz12_3
    try clear hcz13_0
    try clear hcz13_1
    try clear hcz13_2
    try clear hcz13_3
    try clear hcz16_0
    try clear hcz16_1
    try clear hcz16_2
    try clear hcz16_3
    try clear hcz19_0
    try clear hcz19_1
    try clear hcz19_2
    try clear hcz19_3
    try clear hcz20_0
    try clear hcz20_1
    try clear hcz20_2
    try clear hcz20_3
    try clear hcz24_0
    try clear hcz24_1
    try clear hcz24_2
    try clear hcz24_3
    try clear hcz25_0
    try clear hcz25_1
    try clear hcz25_2
    try clear hcz25_3
    try clear hcz27_0
    try clear hcz27_1
    try clear hcz27_2
    try clear hcz27_3
    try clear hcz28_0
    try clear hcz28_1
    try clear hcz28_2
    try clear hcz28_3
    try clear hcz30_0
    try clear hcz30_1
    try clear hcz30_2
    try clear hcz30_3
    try clear hcz31_0
    try clear hcz31_1
    try clear hcz31_2
    try clear hcz31_3
    try clear hcz8_0
    try clear hcz8_1
    try clear hcz8_2
    try clear hcz8_3
    try clear hfz12_0
    try clear hfz12_1
    try clear hfz12_2
    try clear hfz12_3
    try clear hfz13_0
    try clear hfz13_1
    try clear hfz13_2
    try clear hfz13_3
    try clear hfz16_0
    try clear hfz16_1
    try clear hfz16_2
    try clear hfz16_3
    try clear hfz19_0
    try clear hfz19_1
    try clear hfz19_2
    try clear hfz19_3
    try clear hfz20_0
    try clear hfz20_1
    try clear hfz20_2
    try clear hfz20_3
    try clear hfz24_0
    try clear hfz24_1
    try clear hfz24_2
    try clear hfz24_3
    try clear hfz25_0
    try clear hfz25_1
    try clear hfz25_2
    try clear hfz25_3
    try clear hfz27_0
    try clear hfz27_1
    try clear hfz27_2
    try clear hfz27_3
    try clear hfz28_0
    try clear hfz28_1
    try clear hfz28_2
    try clear hfz28_3
    try clear hfz30_0
    try clear hfz30_1
    try clear hfz30_2
    try clear hfz30_3
    try clear hfz31_0
    try clear hfz31_1
    try clear hfz31_2
    try clear hfz31_3
    try clear hfz8_0
    try clear hfz8_1
    try clear hfz8_2
    try clear hfz8_3
    obtain ⟨kq, x45_4, rfl, HA, HJ4, BK116, BK121, HB⟩ := hcut
    cases kq with
    | zero => exact absurd HA.out (by simp [spec_Div.j0])
    | succ kj4 =>
      have H := HA.out
      clear HA
      simp only [spec_Div.j0] at H
      by_cases c32 : x45_4 = true
      · subst c32
        have H1 : (some 9221120237041090560) = some r := by rw [if_pos rfl] at H; exact H
        clear H
        have H := H1
        clear H1
        obtain rfl := Option.some.inj H
        go_wp2
        go_ret
        exact ⟨by first | rfl | (refine congrArg Ending.returned (congrArg (Value.int .i64) (?_ : (0 : Int) = _)); decide +kernel) | (simp [errW_none, errW_some] <;> rfl) | (simp [*, errW_none, errW_some] <;> rfl), by repeat (first | (with_reducible first | exact HB.out | apply below_alloc | apply pw_below_drewN | apply below_drew1 | refine below_set ?_ GE116.out | refine below_set ?_ GE121.out) | exact HB.out)⟩
      · replace c32 := Bool.eq_false_iff.mpr c32
        subst c32
        have H1 : (if t112 = 2 then (spec_Div.j1 kj4 (t113 != t118) true t112 t113 t114 t115 t117 t118 t119 t120) else (spec_Div.j1 kj4 (t113 != t118) (t117 == 3) t112 t113 t114 t115 t117 t118 t119 t120)) = some r := by rw [if_neg (show ¬ (false = true) by decide)] at H; exact H
        clear H
        have H := H1
        clear H1
        have HC33 := Aside0.mk H
        clear H
        go_upto_region 6 with (fail)
        go_cut [53] (fun v53 wc => ∃ (kq : Nat) (x53_32 : Bool), v53 = .bool x53_32 ∧ Aside0 (spec_Div.j1 kq (t113 != t118) x53_32 t112 t113 t114 t115 t117 t118 t119 t120 = some r) ∧ Aside0 (kq ≤ kj4) ∧ Aside0 (wc.heap[gb116]? = some (.cells #[.int .i64 t112, .bool t113, .int .u64 t114, .int .i64 t115] 33 (0, 0))) ∧ Aside0 (wc.heap[gb121]? = some (.cells #[.int .i64 t117, .bool t118, .int .u64 t119, .int .i64 t120] 33 (0, 0))) ∧ Aside0 (Below w.heap.size w wc))
        case first =>
          have H := HC33.out
          clear HC33
          by_cases c34 : t112 = 2
          · rw [if_pos c34] at H
            have c34b0 : (t112 == 2) = true := beq_iff_eq.mpr c34
            have c34b1 : (t112 != 2) = false := bne_eq_false_iff_eq.mpr c34
            clear c34
            (first | rw [c34b0] | (simp only [i64_w, i32_w]; rw [c34b0]) | skip)
            have H' := Aside0.mk H
            clear H
            have hnb35 := NB116_121.out
            have hnc35 := NB121_116.out
            have hcz36_0 : wc.cell? ⟨gb116, 0, none⟩ = some (.int .i64 t112) := (blk_cell BK116.out 0).trans rfl
            have hcz36_1 : wc.cell? ⟨gb116, 1, none⟩ = some (.bool t113) := (blk_cell BK116.out 1).trans rfl
            have hcz36_2 : wc.cell? ⟨gb116, 2, none⟩ = some (.int .u64 t114) := (blk_cell BK116.out 2).trans rfl
            have hcz36_3 : wc.cell? ⟨gb116, 3, none⟩ = some (.int .i64 t115) := (blk_cell BK116.out 3).trans rfl
            have hfz36_0 := blk_frozen BK116.out 0
            have hfz36_1 := blk_frozen BK116.out 1
            have hfz36_2 := blk_frozen BK116.out 2
            have hfz36_3 := blk_frozen BK116.out 3
            go_wp2
            go_meet
            case rel => exact ⟨_, (true), (by first | rfl | (refine congrArg Ending.returned (congrArg (Value.int .i64) (?_ : (0 : Int) = _)); decide +kernel) | (simp; done) | (simp [*]; done)), H', ⟨by have := HJ4.out; first | omega | exact Nat.le_refl _⟩, ⟨by (with_reducible repeat (first | refine blk_drewN ?_ _ | refine blk_drew ?_ | refine blk_alloc ?_ _)); exact BK116.out⟩, ⟨by (with_reducible repeat (first | refine blk_drewN ?_ _ | refine blk_drew ?_ | refine blk_alloc ?_ _)); exact BK121.out⟩, ⟨by repeat (first | (with_reducible first | exact HB.out | apply below_alloc | apply pw_below_drewN | apply below_drew1 | refine below_set ?_ GE116.out | refine below_set ?_ GE121.out) | exact HB.out)⟩⟩
          · rw [if_neg c34] at H
            have c34b0 : (t112 == 2) = false := beq_eq_false_iff_ne.mpr c34
            have c34b1 : (t112 != 2) = true := bne_iff_ne.mpr c34
            (first | rw [c34b0] | (simp only [i64_w, i32_w]; rw [c34b0]) | skip)
            have H' := Aside0.mk H
            clear H
            have hnb37 := NB116_121.out
            have hnc37 := NB121_116.out
            have hcz38_0 : wc.cell? ⟨gb116, 0, none⟩ = some (.int .i64 t112) := (blk_cell BK116.out 0).trans rfl
            have hcz38_1 : wc.cell? ⟨gb116, 1, none⟩ = some (.bool t113) := (blk_cell BK116.out 1).trans rfl
            have hcz38_2 : wc.cell? ⟨gb116, 2, none⟩ = some (.int .u64 t114) := (blk_cell BK116.out 2).trans rfl
            have hcz38_3 : wc.cell? ⟨gb116, 3, none⟩ = some (.int .i64 t115) := (blk_cell BK116.out 3).trans rfl
            have hfz38_0 := blk_frozen BK116.out 0
            have hfz38_1 := blk_frozen BK116.out 1
            have hfz38_2 := blk_frozen BK116.out 2
            have hfz38_3 := blk_frozen BK116.out 3
            have hcz39_0 : wc.cell? ⟨gb121, 0, none⟩ = some (.int .i64 t117) := (blk_cell BK121.out 0).trans rfl
            have hcz39_1 : wc.cell? ⟨gb121, 1, none⟩ = some (.bool t118) := (blk_cell BK121.out 1).trans rfl
            have hcz39_2 : wc.cell? ⟨gb121, 2, none⟩ = some (.int .u64 t119) := (blk_cell BK121.out 2).trans rfl
            have hcz39_3 : wc.cell? ⟨gb121, 3, none⟩ = some (.int .i64 t120) := (blk_cell BK121.out 3).trans rfl
            have hfz39_0 := blk_frozen BK121.out 0
            have hfz39_1 := blk_frozen BK121.out 1
            have hfz39_2 := blk_frozen BK121.out 2
            have hfz39_3 := blk_frozen BK121.out 3
            go_wp2
            go_meet
            case rel => exact ⟨_, ((t117 == 3)), (by first | rfl | (refine congrArg Ending.returned (congrArg (Value.int .i64) (?_ : (0 : Int) = _)); decide +kernel) | (simp; done) | (simp [*]; done)), H', ⟨by have := HJ4.out; first | omega | exact Nat.le_refl _⟩, ⟨by (with_reducible repeat (first | refine blk_drewN ?_ _ | refine blk_drew ?_ | refine blk_alloc ?_ _)); exact BK116.out⟩, ⟨by (with_reducible repeat (first | refine blk_drewN ?_ _ | refine blk_drew ?_ | refine blk_alloc ?_ _)); exact BK121.out⟩, ⟨by repeat (first | (with_reducible first | exact HB.out | apply below_alloc | apply pw_below_drewN | apply below_drew1 | refine below_set ?_ GE116.out | refine below_set ?_ GE121.out) | exact HB.out)⟩⟩
        case rest =>
          clear HC33
          try clear c1
          try clear c2
          try clear p2
          try clear c3
          try clear c11
          try clear c14
          try clear c14b0
          try clear c14b1
          try clear c15
          try clear c17
          try clear c17b0
          try clear c17b1
          try clear c18
          try clear c21
          try clear c21b0
          try clear c21b1
          try clear c22
          try clear c22b0
          try clear c22b1
          try clear c23
          try clear c26
          try clear c29
          try clear c32
          try clear c34
          try clear c34b0
          try clear c34b1
          try clear c35
          try clear c37
          try clear c38
          try clear hcz12_0
          try clear hcz12_1
          try clear hcz12_2
          try clear hcz12_3
          try clear hcz13_0
          try clear hcz13_1
          try clear hcz13_2
          try clear hcz13_3
          try clear hcz16_0
          try clear hcz16_1
          try clear hcz16_2
          try clear hcz16_3
          try clear hcz19_0
          try clear hcz19_1
          try clear hcz19_2
          try clear hcz19_3
          try clear hcz20_0
          try clear hcz20_1
          try clear hcz20_2
          try clear hcz20_3
          try clear hcz24_0
          try clear hcz24_1
          try clear hcz24_2
          try clear hcz24_3
          try clear hcz25_0
          try clear hcz25_1
          try clear hcz25_2
          try clear hcz25_3
          try clear hcz27_0
          try clear hcz27_1
          try clear hcz27_2
          try clear hcz27_3
          try clear hcz28_0
          try clear hcz28_1
          try clear hcz28_2
          try clear hcz28_3
          try clear hcz30_0
          try clear hcz30_1
          try clear hcz30_2
          try clear hcz30_3
          try clear hcz31_0
          try clear hcz31_1
          try clear hcz31_2
          try clear hcz31_3
          try clear hcz36_0
          try clear hcz36_1
          try clear hcz36_2
          try clear hcz36_3
          try clear hcz38_0
          try clear hcz38_1
          try clear hcz38_2
          try clear hcz38_3
          try clear hcz39_0
          try clear hcz39_1
          try clear hcz39_2
          try clear hcz39_3
          try clear hcz8_0
          try clear hcz8_1
          try clear hcz8_2
          try clear hcz8_3
          try clear hfz12_0
          try clear hfz12_1
          try clear hfz12_2
          try clear hfz12_3
          try clear hfz13_0
          try clear hfz13_1
          try clear hfz13_2
          try clear hfz13_3
          try clear hfz16_0
          try clear hfz16_1
          try clear hfz16_2
          try clear hfz16_3
          try clear hfz19_0
          try clear hfz19_1
          try clear hfz19_2
          try clear hfz19_3
          try clear hfz20_0
          try clear hfz20_1
          try clear hfz20_2
          try clear hfz20_3
          try clear hfz24_0
          try clear hfz24_1
          try clear hfz24_2
          try clear hfz24_3
          try clear hfz25_0
          try clear hfz25_1
          try clear hfz25_2
          try clear hfz25_3
          try clear hfz27_0
          try clear hfz27_1
          try clear hfz27_2
          try clear hfz27_3
          try clear hfz28_0
          try clear hfz28_1
          try clear hfz28_2
          try clear hfz28_3
          try clear hfz30_0
          try clear hfz30_1
          try clear hfz30_2
          try clear hfz30_3
          try clear hfz31_0
          try clear hfz31_1
          try clear hfz31_2
          try clear hfz31_3
          try clear hfz36_0
          try clear hfz36_1
          try clear hfz36_2
          try clear hfz36_3
          try clear hfz38_0
          try clear hfz38_1
          try clear hfz38_2
          try clear hfz38_3
          try clear hfz39_0
          try clear hfz39_1
          try clear hfz39_2
          try clear hfz39_3
          try clear hfz8_0
          try clear hfz8_1
          try clear hfz8_2
          try clear hfz8_3
          try clear p2
          obtain ⟨kq, x53_32, rfl, HA, HJ32, BK116, BK121, HB⟩ := hcut
          cases kq with
          | zero => exact absurd HA.out (by simp [spec_Div.j1])
          | succ kj32 =>
            have H := HA.out
            clear HA
            simp only [spec_Div.j1] at H
            by_cases c40 : x53_32 = true
            · subst c40
              have H1 : ((spec_l03Sign.f kj32 9218868437227405312 (t113 != t118)).bind fun t122 => (some t122)) = some r := by rw [if_pos rfl] at H; exact H
              clear H
              have H := H1
              clear H1
              replace H := Option.bind_eq_some_iff.mp H
              obtain ⟨t122, A410, H⟩ := H
              replace H : (some t122) = some r := H
              have A41 := Aside0.mk A410
              clear A410
              obtain rfl := Option.some.inj H
              go_wp2_with (first | ((with_reducible refine gate_callee (f := 51) rfl ?_); refine goesL_ (some 55) rfl rfl Try.func51 (by kernel_rfl) rfl #[.int .u64 9218868437227405312, .bool (t113 != t118)] rfl (by (try simp only [List.map_toArray, List.map_cons, List.map_nil]); first | done | rfl | (simp only [List.length_drop, List.length_take]; rfl)) ?_; (with_reducible refine (spec_l03Sign.calls kj32 9218868437227405312 (t113 != t118) t122 _ A41.out).mono ?_); rintro e w' ⟨rfl, ⟨nd, rfl⟩⟩; refine ⟨_, rfl, ?_⟩))
              go_ret
              exact ⟨by first | rfl | (refine congrArg Ending.returned (congrArg (Value.int .i64) (?_ : (0 : Int) = _)); decide +kernel) | (simp [errW_none, errW_some] <;> rfl) | (simp [*, errW_none, errW_some] <;> rfl), by repeat (first | (with_reducible first | exact HB.out | apply below_alloc | apply pw_below_drewN | apply below_drew1 | refine below_set ?_ GE116.out | refine below_set ?_ GE121.out) | exact HB.out)⟩
            · replace c40 := Bool.eq_false_iff.mpr c40
              subst c40
              have H1 : (if t112 = 3 then (spec_Div.j2 kj32 (t113 != t118) true t112 t113 t114 t115 t117 t118 t119 t120) else (spec_Div.j2 kj32 (t113 != t118) (t117 == 2) t112 t113 t114 t115 t117 t118 t119 t120)) = some r := by rw [if_neg (show ¬ (false = true) by decide)] at H; exact H
              clear H
              have H := H1
              clear H1
              have HC42 := Aside0.mk H
              clear H
              go_upto_region 8 with (fail)
              go_cut [63] (fun v63 wc => ∃ (kq : Nat) (x63_41 : Bool), v63 = .bool x63_41 ∧ Aside0 (spec_Div.j2 kq (t113 != t118) x63_41 t112 t113 t114 t115 t117 t118 t119 t120 = some r) ∧ Aside0 (kq ≤ kj32) ∧ Aside0 (wc.heap[gb116]? = some (.cells #[.int .i64 t112, .bool t113, .int .u64 t114, .int .i64 t115] 33 (0, 0))) ∧ Aside0 (wc.heap[gb121]? = some (.cells #[.int .i64 t117, .bool t118, .int .u64 t119, .int .i64 t120] 33 (0, 0))) ∧ Aside0 (Below w.heap.size w wc))
              case first =>
                have H := HC42.out
                clear HC42
                by_cases c43 : t112 = 3
                · rw [if_pos c43] at H
                  have c43b0 : (t112 == 3) = true := beq_iff_eq.mpr c43
                  have c43b1 : (t112 != 3) = false := bne_eq_false_iff_eq.mpr c43
                  clear c43
                  (first | rw [c43b0] | (simp only [i64_w, i32_w]; rw [c43b0]) | skip)
                  have H' := Aside0.mk H
                  clear H
                  have hnb44 := NB116_121.out
                  have hnc44 := NB121_116.out
                  have hcz45_0 : wc.cell? ⟨gb116, 0, none⟩ = some (.int .i64 t112) := (blk_cell BK116.out 0).trans rfl
                  have hcz45_1 : wc.cell? ⟨gb116, 1, none⟩ = some (.bool t113) := (blk_cell BK116.out 1).trans rfl
                  have hcz45_2 : wc.cell? ⟨gb116, 2, none⟩ = some (.int .u64 t114) := (blk_cell BK116.out 2).trans rfl
                  have hcz45_3 : wc.cell? ⟨gb116, 3, none⟩ = some (.int .i64 t115) := (blk_cell BK116.out 3).trans rfl
                  have hfz45_0 := blk_frozen BK116.out 0
                  have hfz45_1 := blk_frozen BK116.out 1
                  have hfz45_2 := blk_frozen BK116.out 2
                  have hfz45_3 := blk_frozen BK116.out 3
                  go_wp2
                  go_meet
                  case rel => exact ⟨_, (true), (by first | rfl | (refine congrArg Ending.returned (congrArg (Value.int .i64) (?_ : (0 : Int) = _)); decide +kernel) | (simp; done) | (simp [*]; done)), H', ⟨by have := HJ4.out; have := HJ32.out; first | omega | exact Nat.le_refl _⟩, ⟨by (with_reducible repeat (first | refine blk_drewN ?_ _ | refine blk_drew ?_ | refine blk_alloc ?_ _)); exact BK116.out⟩, ⟨by (with_reducible repeat (first | refine blk_drewN ?_ _ | refine blk_drew ?_ | refine blk_alloc ?_ _)); exact BK121.out⟩, ⟨by repeat (first | (with_reducible first | exact HB.out | apply below_alloc | apply pw_below_drewN | apply below_drew1 | refine below_set ?_ GE116.out | refine below_set ?_ GE121.out) | exact HB.out)⟩⟩
                · rw [if_neg c43] at H
                  have c43b0 : (t112 == 3) = false := beq_eq_false_iff_ne.mpr c43
                  have c43b1 : (t112 != 3) = true := bne_iff_ne.mpr c43
                  (first | rw [c43b0] | (simp only [i64_w, i32_w]; rw [c43b0]) | skip)
                  have H' := Aside0.mk H
                  clear H
                  have hnb46 := NB116_121.out
                  have hnc46 := NB121_116.out
                  have hcz47_0 : wc.cell? ⟨gb116, 0, none⟩ = some (.int .i64 t112) := (blk_cell BK116.out 0).trans rfl
                  have hcz47_1 : wc.cell? ⟨gb116, 1, none⟩ = some (.bool t113) := (blk_cell BK116.out 1).trans rfl
                  have hcz47_2 : wc.cell? ⟨gb116, 2, none⟩ = some (.int .u64 t114) := (blk_cell BK116.out 2).trans rfl
                  have hcz47_3 : wc.cell? ⟨gb116, 3, none⟩ = some (.int .i64 t115) := (blk_cell BK116.out 3).trans rfl
                  have hfz47_0 := blk_frozen BK116.out 0
                  have hfz47_1 := blk_frozen BK116.out 1
                  have hfz47_2 := blk_frozen BK116.out 2
                  have hfz47_3 := blk_frozen BK116.out 3
                  have hcz48_0 : wc.cell? ⟨gb121, 0, none⟩ = some (.int .i64 t117) := (blk_cell BK121.out 0).trans rfl
                  have hcz48_1 : wc.cell? ⟨gb121, 1, none⟩ = some (.bool t118) := (blk_cell BK121.out 1).trans rfl
                  have hcz48_2 : wc.cell? ⟨gb121, 2, none⟩ = some (.int .u64 t119) := (blk_cell BK121.out 2).trans rfl
                  have hcz48_3 : wc.cell? ⟨gb121, 3, none⟩ = some (.int .i64 t120) := (blk_cell BK121.out 3).trans rfl
                  have hfz48_0 := blk_frozen BK121.out 0
                  have hfz48_1 := blk_frozen BK121.out 1
                  have hfz48_2 := blk_frozen BK121.out 2
                  have hfz48_3 := blk_frozen BK121.out 3
                  go_wp2
                  go_meet
                  case rel => exact ⟨_, ((t117 == 2)), (by first | rfl | (refine congrArg Ending.returned (congrArg (Value.int .i64) (?_ : (0 : Int) = _)); decide +kernel) | (simp; done) | (simp [*]; done)), H', ⟨by have := HJ4.out; have := HJ32.out; first | omega | exact Nat.le_refl _⟩, ⟨by (with_reducible repeat (first | refine blk_drewN ?_ _ | refine blk_drew ?_ | refine blk_alloc ?_ _)); exact BK116.out⟩, ⟨by (with_reducible repeat (first | refine blk_drewN ?_ _ | refine blk_drew ?_ | refine blk_alloc ?_ _)); exact BK121.out⟩, ⟨by repeat (first | (with_reducible first | exact HB.out | apply below_alloc | apply pw_below_drewN | apply below_drew1 | refine below_set ?_ GE116.out | refine below_set ?_ GE121.out) | exact HB.out)⟩⟩
              case rest =>
                clear HC42
                try clear c1
                try clear c2
                try clear p2
                try clear c3
                try clear c4
                try clear c5
                try clear c11
                try clear c14
                try clear c14b0
                try clear c14b1
                try clear c15
                try clear c17
                try clear c17b0
                try clear c17b1
                try clear c18
                try clear c21
                try clear c21b0
                try clear c21b1
                try clear c22
                try clear c22b0
                try clear c22b1
                try clear c23
                try clear c26
                try clear c29
                try clear c32
                try clear c34
                try clear c34b0
                try clear c34b1
                try clear c35
                try clear c37
                try clear c38
                try clear c40
                try clear c43
                try clear c43b0
                try clear c43b1
                try clear c44
                try clear c46
                try clear hcz12_0
                try clear hcz12_1
                try clear hcz12_2
                try clear hcz12_3
                try clear hcz13_0
                try clear hcz13_1
                try clear hcz13_2
                try clear hcz13_3
                try clear hcz16_0
                try clear hcz16_1
                try clear hcz16_2
                try clear hcz16_3
                try clear hcz19_0
                try clear hcz19_1
                try clear hcz19_2
                try clear hcz19_3
                try clear hcz20_0
                try clear hcz20_1
                try clear hcz20_2
                try clear hcz20_3
                try clear hcz24_0
                try clear hcz24_1
                try clear hcz24_2
                try clear hcz24_3
                try clear hcz25_0
                try clear hcz25_1
                try clear hcz25_2
                try clear hcz25_3
                try clear hcz27_0
                try clear hcz27_1
                try clear hcz27_2
                try clear hcz27_3
                try clear hcz28_0
                try clear hcz28_1
                try clear hcz28_2
                try clear hcz28_3
                try clear hcz30_0
                try clear hcz30_1
                try clear hcz30_2
                try clear hcz30_3
                try clear hcz31_0
                try clear hcz31_1
                try clear hcz31_2
                try clear hcz31_3
                try clear hcz36_0
                try clear hcz36_1
                try clear hcz36_2
                try clear hcz36_3
                try clear hcz38_0
                try clear hcz38_1
                try clear hcz38_2
                try clear hcz38_3
                try clear hcz39_0
                try clear hcz39_1
                try clear hcz39_2
                try clear hcz39_3
                try clear hcz45_0
                try clear hcz45_1
                try clear hcz45_2
                try clear hcz45_3
                try clear hcz47_0
                try clear hcz47_1
                try clear hcz47_2
                try clear hcz47_3
                try clear hcz48_0
                try clear hcz48_1
                try clear hcz48_2
                try clear hcz48_3
                try clear hcz8_0
                try clear hcz8_1
                try clear hcz8_2
                try clear hcz8_3
                try clear hfz12_0
                try clear hfz12_1
                try clear hfz12_2
                try clear hfz12_3
                try clear hfz13_0
                try clear hfz13_1
                try clear hfz13_2
                try clear hfz13_3
                try clear hfz16_0
                try clear hfz16_1
                try clear hfz16_2
                try clear hfz16_3
                try clear hfz19_0
                try clear hfz19_1
                try clear hfz19_2
                try clear hfz19_3
                try clear hfz20_0
                try clear hfz20_1
                try clear hfz20_2
                try clear hfz20_3
                try clear hfz24_0
                try clear hfz24_1
                try clear hfz24_2
                try clear hfz24_3
                try clear hfz25_0
                try clear hfz25_1
                try clear hfz25_2
                try clear hfz25_3
                try clear hfz27_0
                try clear hfz27_1
                try clear hfz27_2
                try clear hfz27_3
                try clear hfz28_0
                try clear hfz28_1
                try clear hfz28_2
                try clear hfz28_3
                try clear hfz30_0
                try clear hfz30_1
                try clear hfz30_2
                try clear hfz30_3
                try clear hfz31_0
                try clear hfz31_1
                try clear hfz31_2
                try clear hfz31_3
                try clear hfz36_0
                try clear hfz36_1
                try clear hfz36_2
                try clear hfz36_3
                try clear hfz38_0
                try clear hfz38_1
                try clear hfz38_2
                try clear hfz38_3
                try clear hfz39_0
                try clear hfz39_1
                try clear hfz39_2
                try clear hfz39_3
                try clear hfz45_0
                try clear hfz45_1
                try clear hfz45_2
                try clear hfz45_3
                try clear hfz47_0
                try clear hfz47_1
                try clear hfz47_2
                try clear hfz47_3
                try clear hfz48_0
                try clear hfz48_1
                try clear hfz48_2
                try clear hfz48_3
                try clear hfz8_0
                try clear hfz8_1
                try clear hfz8_2
                try clear hfz8_3
                try clear p2
                obtain ⟨kq, x63_41, rfl, HA, HJ41, BK116, BK121, HB⟩ := hcut
                cases kq with
                | zero => exact absurd HA.out (by simp [spec_Div.j2])
                | succ kj41 =>
                  have H := HA.out
                  clear HA
                  simp only [spec_Div.j2] at H
                  by_cases c49 : x63_41 = true
                  · subst c49
                    have H1 : ((spec_l03Sign.f kj41 0 (t113 != t118)).bind fun t123 => (some t123)) = some r := by rw [if_pos rfl] at H; exact H
                    clear H
                    have H := H1
                    clear H1
                    replace H := Option.bind_eq_some_iff.mp H
                    obtain ⟨t123, A500, H⟩ := H
                    replace H : (some t123) = some r := H
                    have A50 := Aside0.mk A500
                    clear A500
                    obtain rfl := Option.some.inj H
                    go_wp2_with (first | ((with_reducible refine gate_callee (f := 51) rfl ?_); refine goesL_ (some 65) rfl rfl Try.func51 (by kernel_rfl) rfl #[.int .u64 0, .bool (t113 != t118)] rfl (by (try simp only [List.map_toArray, List.map_cons, List.map_nil]); first | done | rfl | (simp only [List.length_drop, List.length_take]; rfl)) ?_; (with_reducible refine (spec_l03Sign.calls kj41 0 (t113 != t118) t123 _ A50.out).mono ?_); rintro e w' ⟨rfl, ⟨nd, rfl⟩⟩; refine ⟨_, rfl, ?_⟩))
                    go_ret
                    exact ⟨by first | rfl | (refine congrArg Ending.returned (congrArg (Value.int .i64) (?_ : (0 : Int) = _)); decide +kernel) | (simp [errW_none, errW_some] <;> rfl) | (simp [*, errW_none, errW_some] <;> rfl), by repeat (first | (with_reducible first | exact HB.out | apply below_alloc | apply pw_below_drewN | apply below_drew1 | refine below_set ?_ GE116.out | refine below_set ?_ GE121.out) | exact HB.out)⟩
                  · replace c49 := Bool.eq_false_iff.mpr c49
                    subst c49
                    have H1 : ((spec_l05Up.f kj41 t112 t113 t114 t115).bind fun bt124 => ((spec_l05Up.f kj41 t117 t118 t119 t120).bind fun bt128 => (spec_Div.l0 kj41 (t113 != t118) bt124.2.2.1 0 (wrap64 (bt124.2.2.2 - bt128.2.2.2)) 0 bt128.1 bt128.2.1 bt128.2.2.1 bt128.2.2.2))) = some r := by rw [if_neg (show ¬ (false = true) by decide)] at H; exact H
                    clear H
                    have H := H1
                    clear H1
                    replace H := Option.bind_eq_some_iff.mp H
                    obtain ⟨⟨t124, t125, t126, t127⟩, A510, H⟩ := H
                    replace H : ((spec_l05Up.f kj41 t117 t118 t119 t120).bind fun bt128 => (spec_Div.l0 kj41 (t113 != t118) t126 0 (wrap64 (t127 - bt128.2.2.2)) 0 bt128.1 bt128.2.1 bt128.2.2.1 bt128.2.2.2)) = some r := H
                    have A51 := Aside0.mk A510
                    clear A510
                    replace H := Option.bind_eq_some_iff.mp H
                    obtain ⟨⟨t128, t129, t130, t131⟩, A520, H⟩ := H
                    replace H : (spec_Div.l0 kj41 (t113 != t118) t126 0 (wrap64 (t127 - t131)) 0 t128 t129 t130 t131) = some r := H
                    have A52 := Aside0.mk A520
                    clear A520
                    have H' := Aside0.mk H
                    clear H
                    have hnb53 := NB116_121.out
                    have hnc53 := NB121_116.out
                    have hcz54_0 : wc.cell? ⟨gb116, 0, none⟩ = some (.int .i64 t112) := (blk_cell BK116.out 0).trans rfl
                    have hcz54_1 : wc.cell? ⟨gb116, 1, none⟩ = some (.bool t113) := (blk_cell BK116.out 1).trans rfl
                    have hcz54_2 : wc.cell? ⟨gb116, 2, none⟩ = some (.int .u64 t114) := (blk_cell BK116.out 2).trans rfl
                    have hcz54_3 : wc.cell? ⟨gb116, 3, none⟩ = some (.int .i64 t115) := (blk_cell BK116.out 3).trans rfl
                    have hfz54_0 := blk_frozen BK116.out 0
                    have hfz54_1 := blk_frozen BK116.out 1
                    have hfz54_2 := blk_frozen BK116.out 2
                    have hfz54_3 := blk_frozen BK116.out 3
                    go_wp2_with (first | ((with_reducible refine gate_callee (f := 53) rfl ?_); refine goesL_ (some 67) rfl rfl Try.func53 (by kernel_rfl) rfl #[.agg #[.int .i64 t112, .bool t113, .int .u64 t114, .int .i64 t115]] rfl (by (try simp only [List.map_toArray, List.map_cons, List.map_nil]); first | done | rfl | (simp only [List.length_drop, List.length_take]; rfl)) ?_; (with_reducible refine (spec_l05Up.calls kj41 t112 t113 t114 t115 t124 t125 t126 t127 _ A51.out).mono ?_); rintro e w55 ⟨rfl, hb⟩; refine ⟨_, rfl, ?_⟩; have n0_ := Aside0.mk (blk_below (g := gb116) (o := .cells #[.int .i64 t112, .bool t113, .int .u64 t114, .int .i64 t115] 33 (0, 0)) (by (with_reducible repeat (first | refine blk_drewN ?_ _ | refine blk_drew ?_ | refine blk_alloc ?_ _)); exact BK116.out) hb); have n1_ := Aside0.mk (blk_below (g := gb121) (o := .cells #[.int .i64 t117, .bool t118, .int .u64 t119, .int .i64 t120] 33 (0, 0)) (by (with_reducible repeat (first | refine blk_drewN ?_ _ | refine blk_drew ?_ | refine blk_alloc ?_ _)); exact BK121.out) hb); have n2_ := Aside0.mk (below_step (by repeat (first | (with_reducible first | exact HB.out | apply below_alloc | apply pw_below_drewN | apply below_drew1 | refine below_set ?_ GE116.out | refine below_set ?_ GE121.out) | exact HB.out)) hb); clear BK116; clear BK121; clear HB; have BK116 := n0_; have BK121 := n1_; have HB := n2_; clear n0_ n1_ n2_; (try clear hb); (try clear hb2); (try clear hk); (try clear hi); have hcz56_0 : w55.cell? ⟨gb116, 0, none⟩ = some (.int .i64 t112) := (blk_cell BK116.out 0).trans rfl; have hcz56_1 : w55.cell? ⟨gb116, 1, none⟩ = some (.bool t113) := (blk_cell BK116.out 1).trans rfl; have hcz56_2 : w55.cell? ⟨gb116, 2, none⟩ = some (.int .u64 t114) := (blk_cell BK116.out 2).trans rfl; have hcz56_3 : w55.cell? ⟨gb116, 3, none⟩ = some (.int .i64 t115) := (blk_cell BK116.out 3).trans rfl; have hfz56_0 := blk_frozen BK116.out 0; have hfz56_1 := blk_frozen BK116.out 1; have hfz56_2 := blk_frozen BK116.out 2; have hfz56_3 := blk_frozen BK116.out 3; have hcz57_0 : w55.cell? ⟨gb121, 0, none⟩ = some (.int .i64 t117) := (blk_cell BK121.out 0).trans rfl; have hcz57_1 : w55.cell? ⟨gb121, 1, none⟩ = some (.bool t118) := (blk_cell BK121.out 1).trans rfl; have hcz57_2 : w55.cell? ⟨gb121, 2, none⟩ = some (.int .u64 t119) := (blk_cell BK121.out 2).trans rfl; have hcz57_3 : w55.cell? ⟨gb121, 3, none⟩ = some (.int .i64 t120) := (blk_cell BK121.out 3).trans rfl; have hfz57_0 := blk_frozen BK121.out 0; have hfz57_1 := blk_frozen BK121.out 1; have hfz57_2 := blk_frozen BK121.out 2; have hfz57_3 := blk_frozen BK121.out 3) | ((with_reducible refine gate_callee (f := 53) rfl ?_); refine goesL_ (some 69) rfl rfl Try.func53 (by kernel_rfl) rfl #[.agg #[.int .i64 t117, .bool t118, .int .u64 t119, .int .i64 t120]] rfl (by (try simp only [List.map_toArray, List.map_cons, List.map_nil]); first | done | rfl | (simp only [List.length_drop, List.length_take]; rfl)) ?_; (with_reducible refine (spec_l05Up.calls kj41 t117 t118 t119 t120 t128 t129 t130 t131 _ A52.out).mono ?_); rintro e w58 ⟨rfl, hb⟩; refine ⟨_, rfl, ?_⟩; have n0_ := Aside0.mk (blk_below (g := gb116) (o := .cells #[.int .i64 t124, .bool t125, .int .u64 t126, .int .i64 t127] 33 (0, 0)) (by (with_reducible repeat (first | refine blk_drewN ?_ _ | refine blk_drew ?_ | refine blk_alloc ?_ _)); refine blk_put (cs := #[.int .i64 t124, .bool t125, .int .u64 t126, .int .i64 t115]) ?_ 3 _ rfl; (with_reducible repeat (first | refine blk_drewN ?_ _ | refine blk_drew ?_ | refine blk_alloc ?_ _)); refine blk_put (cs := #[.int .i64 t124, .bool t125, .int .u64 t114, .int .i64 t115]) ?_ 2 _ rfl; (with_reducible repeat (first | refine blk_drewN ?_ _ | refine blk_drew ?_ | refine blk_alloc ?_ _)); refine blk_put (cs := #[.int .i64 t124, .bool t113, .int .u64 t114, .int .i64 t115]) ?_ 1 _ rfl; (with_reducible repeat (first | refine blk_drewN ?_ _ | refine blk_drew ?_ | refine blk_alloc ?_ _)); refine blk_put (cs := #[.int .i64 t112, .bool t113, .int .u64 t114, .int .i64 t115]) ?_ 0 _ rfl; (with_reducible repeat (first | refine blk_drewN ?_ _ | refine blk_drew ?_ | refine blk_alloc ?_ _)); exact BK116.out) hb); have n1_ := Aside0.mk (blk_below (g := gb121) (o := .cells #[.int .i64 t117, .bool t118, .int .u64 t119, .int .i64 t120] 33 (0, 0)) (by (with_reducible repeat (first | refine blk_drewN ?_ _ | refine blk_drew ?_ | refine blk_alloc ?_ _)); refine blk_far ?_ NB121_116.out _; (with_reducible repeat (first | refine blk_drewN ?_ _ | refine blk_drew ?_ | refine blk_alloc ?_ _)); refine blk_far ?_ NB121_116.out _; (with_reducible repeat (first | refine blk_drewN ?_ _ | refine blk_drew ?_ | refine blk_alloc ?_ _)); refine blk_far ?_ NB121_116.out _; (with_reducible repeat (first | refine blk_drewN ?_ _ | refine blk_drew ?_ | refine blk_alloc ?_ _)); refine blk_far ?_ NB121_116.out _; (with_reducible repeat (first | refine blk_drewN ?_ _ | refine blk_drew ?_ | refine blk_alloc ?_ _)); exact BK121.out) hb); have n2_ := Aside0.mk (below_step (by repeat (first | (with_reducible first | exact HB.out | apply below_alloc | apply pw_below_drewN | apply below_drew1 | refine below_set ?_ GE116.out | refine below_set ?_ GE121.out) | exact HB.out)) hb); clear BK116; clear BK121; clear HB; have BK116 := n0_; have BK121 := n1_; have HB := n2_; clear n0_ n1_ n2_; (try clear hb); (try clear hb2); (try clear hk); (try clear hi); have hcz59_0 : w58.cell? ⟨gb121, 0, none⟩ = some (.int .i64 t117) := (blk_cell BK121.out 0).trans rfl; have hcz59_1 : w58.cell? ⟨gb121, 1, none⟩ = some (.bool t118) := (blk_cell BK121.out 1).trans rfl; have hcz59_2 : w58.cell? ⟨gb121, 2, none⟩ = some (.int .u64 t119) := (blk_cell BK121.out 2).trans rfl; have hcz59_3 : w58.cell? ⟨gb121, 3, none⟩ = some (.int .i64 t120) := (blk_cell BK121.out 3).trans rfl; have hfz59_0 := blk_frozen BK121.out 0; have hfz59_1 := blk_frozen BK121.out 1; have hfz59_2 := blk_frozen BK121.out 2; have hfz59_3 := blk_frozen BK121.out 3; have hcz60_0 : w58.cell? ⟨gb116, 0, none⟩ = some (.int .i64 t124) := (blk_cell BK116.out 0).trans rfl; have hcz60_1 : w58.cell? ⟨gb116, 1, none⟩ = some (.bool t125) := (blk_cell BK116.out 1).trans rfl; have hcz60_2 : w58.cell? ⟨gb116, 2, none⟩ = some (.int .u64 t126) := (blk_cell BK116.out 2).trans rfl; have hcz60_3 : w58.cell? ⟨gb116, 3, none⟩ = some (.int .i64 t127) := (blk_cell BK116.out 3).trans rfl; have hfz60_0 := blk_frozen BK116.out 0; have hfz60_1 := blk_frozen BK116.out 1; have hfz60_2 := blk_frozen BK116.out 2; have hfz60_3 := blk_frozen BK116.out 3))
                    go_loopg [8, 9, 10, 11] kj41 (fun kq v8 v9 v10 v11 w' => ∃ (x8_4 : Int) (x9_4 : Int) (x10_4 : Int) (x11_4 : Int), v8 = .int .u64 x8_4 ∧ v9 = .int .u64 x9_4 ∧ v10 = .int .i64 x10_4 ∧ v11 = .int .i64 x11_4 ∧ Aside0 (spec_Div.l0 kq (t113 != t118) x8_4 x9_4 x10_4 x11_4 t128 t129 t130 t131 = some r) ∧ Aside0 (kq ≤ kj41) ∧ Aside0 (w'.heap[gb116]? = some (.cells #[.int .i64 t124, .bool t125, .int .u64 t126, .int .i64 t127] 33 (0, 0))) ∧ Aside0 (w'.heap[gb121]? = some (.cells #[.int .i64 t128, .bool t129, .int .u64 t130, .int .i64 t131] 33 (0, 0))) ∧ Aside0 (Below w.heap.size w w'))
                    case atStart => exact ⟨(t126), (0), (wrap64 (t127 - t131)), (0), (by first | rfl | (refine congrArg Ending.returned (congrArg (Value.int .i64) (?_ : (0 : Int) = _)); decide +kernel) | (simp; done) | (simp [*]; done)), (by first | rfl | (refine congrArg Ending.returned (congrArg (Value.int .i64) (?_ : (0 : Int) = _)); decide +kernel) | (simp; done) | (simp [*]; done)), (by first | rfl | (refine congrArg Ending.returned (congrArg (Value.int .i64) (?_ : (0 : Int) = _)); decide +kernel) | (simp; done) | (simp [*]; done)), (by first | rfl | (refine congrArg Ending.returned (congrArg (Value.int .i64) (?_ : (0 : Int) = _)); decide +kernel) | (simp; done) | (simp [*]; done)), H', ⟨Nat.le_refl _⟩, ⟨by (with_reducible repeat (first | refine blk_drewN ?_ _ | refine blk_drew ?_ | refine blk_alloc ?_ _)); refine blk_far ?_ NB116_121.out _; (with_reducible repeat (first | refine blk_drewN ?_ _ | refine blk_drew ?_ | refine blk_alloc ?_ _)); refine blk_far ?_ NB116_121.out _; (with_reducible repeat (first | refine blk_drewN ?_ _ | refine blk_drew ?_ | refine blk_alloc ?_ _)); refine blk_far ?_ NB116_121.out _; (with_reducible repeat (first | refine blk_drewN ?_ _ | refine blk_drew ?_ | refine blk_alloc ?_ _)); refine blk_far ?_ NB116_121.out _; (with_reducible repeat (first | refine blk_drewN ?_ _ | refine blk_drew ?_ | refine blk_alloc ?_ _)); exact BK116.out⟩, ⟨by (with_reducible repeat (first | refine blk_drewN ?_ _ | refine blk_drew ?_ | refine blk_alloc ?_ _)); refine blk_put (cs := #[.int .i64 t128, .bool t129, .int .u64 t130, .int .i64 t120]) ?_ 3 _ rfl; (with_reducible repeat (first | refine blk_drewN ?_ _ | refine blk_drew ?_ | refine blk_alloc ?_ _)); refine blk_put (cs := #[.int .i64 t128, .bool t129, .int .u64 t119, .int .i64 t120]) ?_ 2 _ rfl; (with_reducible repeat (first | refine blk_drewN ?_ _ | refine blk_drew ?_ | refine blk_alloc ?_ _)); refine blk_put (cs := #[.int .i64 t128, .bool t118, .int .u64 t119, .int .i64 t120]) ?_ 1 _ rfl; (with_reducible repeat (first | refine blk_drewN ?_ _ | refine blk_drew ?_ | refine blk_alloc ?_ _)); refine blk_put (cs := #[.int .i64 t117, .bool t118, .int .u64 t119, .int .i64 t120]) ?_ 0 _ rfl; (with_reducible repeat (first | refine blk_drewN ?_ _ | refine blk_drew ?_ | refine blk_alloc ?_ _)); exact BK121.out⟩, ⟨by repeat (first | (with_reducible first | exact HB.out | apply below_alloc | apply pw_below_drewN | apply below_drew1 | refine below_set ?_ GE116.out | refine below_set ?_ GE121.out) | exact HB.out)⟩⟩
                    case round =>
                      clear H'
                      try clear c1
                      try clear c2
                      try clear p2
                      try clear c3
                      try clear c4
                      try clear c5
                      try clear p6
                      try clear c11
                      try clear c14
                      try clear c14b0
                      try clear c14b1
                      try clear c15
                      try clear c17
                      try clear c17b0
                      try clear c17b1
                      try clear c18
                      try clear c21
                      try clear c21b0
                      try clear c21b1
                      try clear c22
                      try clear c22b0
                      try clear c22b1
                      try clear c23
                      try clear c26
                      try clear c29
                      try clear c32
                      try clear c34
                      try clear c34b0
                      try clear c34b1
                      try clear c35
                      try clear c37
                      try clear c38
                      try clear c40
                      try clear c43
                      try clear c43b0
                      try clear c43b1
                      try clear c44
                      try clear c46
                      try clear c49
                      try clear c51
                      try clear c53
                      try clear hcz12_0
                      try clear hcz12_1
                      try clear hcz12_2
                      try clear hcz12_3
                      try clear hcz13_0
                      try clear hcz13_1
                      try clear hcz13_2
                      try clear hcz13_3
                      try clear hcz16_0
                      try clear hcz16_1
                      try clear hcz16_2
                      try clear hcz16_3
                      try clear hcz19_0
                      try clear hcz19_1
                      try clear hcz19_2
                      try clear hcz19_3
                      try clear hcz20_0
                      try clear hcz20_1
                      try clear hcz20_2
                      try clear hcz20_3
                      try clear hcz24_0
                      try clear hcz24_1
                      try clear hcz24_2
                      try clear hcz24_3
                      try clear hcz25_0
                      try clear hcz25_1
                      try clear hcz25_2
                      try clear hcz25_3
                      try clear hcz27_0
                      try clear hcz27_1
                      try clear hcz27_2
                      try clear hcz27_3
                      try clear hcz28_0
                      try clear hcz28_1
                      try clear hcz28_2
                      try clear hcz28_3
                      try clear hcz30_0
                      try clear hcz30_1
                      try clear hcz30_2
                      try clear hcz30_3
                      try clear hcz31_0
                      try clear hcz31_1
                      try clear hcz31_2
                      try clear hcz31_3
                      try clear hcz36_0
                      try clear hcz36_1
                      try clear hcz36_2
                      try clear hcz36_3
                      try clear hcz38_0
                      try clear hcz38_1
                      try clear hcz38_2
                      try clear hcz38_3
                      try clear hcz39_0
                      try clear hcz39_1
                      try clear hcz39_2
                      try clear hcz39_3
                      try clear hcz45_0
                      try clear hcz45_1
                      try clear hcz45_2
                      try clear hcz45_3
                      try clear hcz47_0
                      try clear hcz47_1
                      try clear hcz47_2
                      try clear hcz47_3
                      try clear hcz48_0
                      try clear hcz48_1
                      try clear hcz48_2
                      try clear hcz48_3
                      try clear hcz54_0
                      try clear hcz54_1
                      try clear hcz54_2
                      try clear hcz54_3
                      try clear hcz56_0
                      try clear hcz56_1
                      try clear hcz56_2
                      try clear hcz56_3
                      try clear hcz57_0
                      try clear hcz57_1
                      try clear hcz57_2
                      try clear hcz57_3
                      try clear hcz59_0
                      try clear hcz59_1
                      try clear hcz59_2
                      try clear hcz59_3
                      try clear hcz60_0
                      try clear hcz60_1
                      try clear hcz60_2
                      try clear hcz60_3
                      try clear hcz8_0
                      try clear hcz8_1
                      try clear hcz8_2
                      try clear hcz8_3
                      try clear hfz12_0
                      try clear hfz12_1
                      try clear hfz12_2
                      try clear hfz12_3
                      try clear hfz13_0
                      try clear hfz13_1
                      try clear hfz13_2
                      try clear hfz13_3
                      try clear hfz16_0
                      try clear hfz16_1
                      try clear hfz16_2
                      try clear hfz16_3
                      try clear hfz19_0
                      try clear hfz19_1
                      try clear hfz19_2
                      try clear hfz19_3
                      try clear hfz20_0
                      try clear hfz20_1
                      try clear hfz20_2
                      try clear hfz20_3
                      try clear hfz24_0
                      try clear hfz24_1
                      try clear hfz24_2
                      try clear hfz24_3
                      try clear hfz25_0
                      try clear hfz25_1
                      try clear hfz25_2
                      try clear hfz25_3
                      try clear hfz27_0
                      try clear hfz27_1
                      try clear hfz27_2
                      try clear hfz27_3
                      try clear hfz28_0
                      try clear hfz28_1
                      try clear hfz28_2
                      try clear hfz28_3
                      try clear hfz30_0
                      try clear hfz30_1
                      try clear hfz30_2
                      try clear hfz30_3
                      try clear hfz31_0
                      try clear hfz31_1
                      try clear hfz31_2
                      try clear hfz31_3
                      try clear hfz36_0
                      try clear hfz36_1
                      try clear hfz36_2
                      try clear hfz36_3
                      try clear hfz38_0
                      try clear hfz38_1
                      try clear hfz38_2
                      try clear hfz38_3
                      try clear hfz39_0
                      try clear hfz39_1
                      try clear hfz39_2
                      try clear hfz39_3
                      try clear hfz45_0
                      try clear hfz45_1
                      try clear hfz45_2
                      try clear hfz45_3
                      try clear hfz47_0
                      try clear hfz47_1
                      try clear hfz47_2
                      try clear hfz47_3
                      try clear hfz48_0
                      try clear hfz48_1
                      try clear hfz48_2
                      try clear hfz48_3
                      try clear hfz54_0
                      try clear hfz54_1
                      try clear hfz54_2
                      try clear hfz54_3
                      try clear hfz56_0
                      try clear hfz56_1
                      try clear hfz56_2
                      try clear hfz56_3
                      try clear hfz57_0
                      try clear hfz57_1
                      try clear hfz57_2
                      try clear hfz57_3
                      try clear hfz59_0
                      try clear hfz59_1
                      try clear hfz59_2
                      try clear hfz59_3
                      try clear hfz60_0
                      try clear hfz60_1
                      try clear hfz60_2
                      try clear hfz60_3
                      try clear hfz8_0
                      try clear hfz8_1
                      try clear hfz8_2
                      try clear hfz8_3
                      try clear p2
                      obtain ⟨x8_4, x9_4, x10_4, x11_4, rfl, rfl, rfl, rfl, HA, HK4, BK116, BK121, HB⟩ := hrel
                      cases gk with
                      | zero => exact absurd HA.out (by simp [spec_Div.l0])
                      | succ k4 =>
                        have H := HA.out
                        clear HA
                        simp only [spec_Div.l0] at H
                        by_cases c61 : x11_4 < 62
                        · rw [if_pos c61] at H
                          have c61b0 : decide (x11_4 < 62) = true := decide_eq_true c61
                          clear c61
                          by_cases c62 : x8_4 ≥ t130
                          · rw [if_pos c62] at H
                            have c62b0 : decide (t130 ≤ x8_4) = true := decide_eq_true c62
                            clear c62
                            by_cases c63 : x11_4 > 0
                            · rw [if_pos c63] at H
                              have c63b0 : decide (0 < x11_4) = true := decide_eq_true c63
                              clear c63
                              have H' := Aside0.mk H
                              clear H
                              have hnb64 := NB121_116.out
                              have hnc64 := NB116_121.out
                              have hcz65_0 : wr.cell? ⟨gb121, 0, none⟩ = some (.int .i64 t128) := (blk_cell BK121.out 0).trans rfl
                              have hcz65_1 : wr.cell? ⟨gb121, 1, none⟩ = some (.bool t129) := (blk_cell BK121.out 1).trans rfl
                              have hcz65_2 : wr.cell? ⟨gb121, 2, none⟩ = some (.int .u64 t130) := (blk_cell BK121.out 2).trans rfl
                              have hcz65_3 : wr.cell? ⟨gb121, 3, none⟩ = some (.int .i64 t131) := (blk_cell BK121.out 3).trans rfl
                              have hfz65_0 := blk_frozen BK121.out 0
                              have hfz65_1 := blk_frozen BK121.out 1
                              have hfz65_2 := blk_frozen BK121.out 2
                              have hfz65_3 := blk_frozen BK121.out 3
                              go_wp2
                              go_roundg k4
                              case measure => have := HJ4.out; have := HJ32.out; have := HJ41.out; have := HK4.out; omega
                              case rel => exact ⟨(IntKind.u64.wrap ((IntKind.u64.wrap (x8_4 - t130)) * 2)), (IntKind.u64.wrap ((IntKind.u64.wrap (x9_4 * 2)) + 1)), (wrap64 (x10_4 - 1)), (wrap64 (x11_4 + 1)), (by first | rfl | (refine congrArg Ending.returned (congrArg (Value.int .i64) (?_ : (0 : Int) = _)); decide +kernel) | (simp; done) | (simp [*]; done)), (by first | rfl | (refine congrArg Ending.returned (congrArg (Value.int .i64) (?_ : (0 : Int) = _)); decide +kernel) | (simp; done) | (simp [*]; done)), (by first | rfl | (refine congrArg Ending.returned (congrArg (Value.int .i64) (?_ : (0 : Int) = _)); decide +kernel) | (simp; done) | (simp [*]; done)), (by first | rfl | (refine congrArg Ending.returned (congrArg (Value.int .i64) (?_ : (0 : Int) = _)); decide +kernel) | (simp; done) | (simp [*]; done)), H', ⟨by have := HJ4.out; have := HJ32.out; have := HJ41.out; have := HK4.out; omega⟩, ⟨by (with_reducible repeat (first | refine blk_drewN ?_ _ | refine blk_drew ?_ | refine blk_alloc ?_ _)); exact BK116.out⟩, ⟨by (with_reducible repeat (first | refine blk_drewN ?_ _ | refine blk_drew ?_ | refine blk_alloc ?_ _)); exact BK121.out⟩, ⟨by repeat (first | (with_reducible first | exact HB.out | apply below_alloc | apply pw_below_drewN | apply below_drew1 | refine below_set ?_ GE116.out | refine below_set ?_ GE121.out) | exact HB.out)⟩⟩
                            · rw [if_neg c63] at H
                              have c63b0 : decide (0 < x11_4) = false := decide_eq_false c63
                              clear c63
                              have H' := Aside0.mk H
                              clear H
                              have hnb66 := NB121_116.out
                              have hnc66 := NB116_121.out
                              have hcz67_0 : wr.cell? ⟨gb121, 0, none⟩ = some (.int .i64 t128) := (blk_cell BK121.out 0).trans rfl
                              have hcz67_1 : wr.cell? ⟨gb121, 1, none⟩ = some (.bool t129) := (blk_cell BK121.out 1).trans rfl
                              have hcz67_2 : wr.cell? ⟨gb121, 2, none⟩ = some (.int .u64 t130) := (blk_cell BK121.out 2).trans rfl
                              have hcz67_3 : wr.cell? ⟨gb121, 3, none⟩ = some (.int .i64 t131) := (blk_cell BK121.out 3).trans rfl
                              have hfz67_0 := blk_frozen BK121.out 0
                              have hfz67_1 := blk_frozen BK121.out 1
                              have hfz67_2 := blk_frozen BK121.out 2
                              have hfz67_3 := blk_frozen BK121.out 3
                              go_wp2
                              go_roundg k4
                              case measure => have := HJ4.out; have := HJ32.out; have := HJ41.out; have := HK4.out; omega
                              case rel => exact ⟨(IntKind.u64.wrap ((IntKind.u64.wrap (x8_4 - t130)) * 2)), (IntKind.u64.wrap ((IntKind.u64.wrap (x9_4 * 2)) + 1)), (x10_4), (wrap64 (x11_4 + 1)), (by first | rfl | (refine congrArg Ending.returned (congrArg (Value.int .i64) (?_ : (0 : Int) = _)); decide +kernel) | (simp; done) | (simp [*]; done)), (by first | rfl | (refine congrArg Ending.returned (congrArg (Value.int .i64) (?_ : (0 : Int) = _)); decide +kernel) | (simp; done) | (simp [*]; done)), (by first | rfl | (refine congrArg Ending.returned (congrArg (Value.int .i64) (?_ : (0 : Int) = _)); decide +kernel) | (simp; done) | (simp [*]; done)), (by first | rfl | (refine congrArg Ending.returned (congrArg (Value.int .i64) (?_ : (0 : Int) = _)); decide +kernel) | (simp; done) | (simp [*]; done)), H', ⟨by have := HJ4.out; have := HJ32.out; have := HJ41.out; have := HK4.out; omega⟩, ⟨by (with_reducible repeat (first | refine blk_drewN ?_ _ | refine blk_drew ?_ | refine blk_alloc ?_ _)); exact BK116.out⟩, ⟨by (with_reducible repeat (first | refine blk_drewN ?_ _ | refine blk_drew ?_ | refine blk_alloc ?_ _)); exact BK121.out⟩, ⟨by repeat (first | (with_reducible first | exact HB.out | apply below_alloc | apply pw_below_drewN | apply below_drew1 | refine below_set ?_ GE116.out | refine below_set ?_ GE121.out) | exact HB.out)⟩⟩
                          · rw [if_neg c62] at H
                            have c62b0 : decide (t130 ≤ x8_4) = false := decide_eq_false c62
                            clear c62
                            by_cases c68 : x11_4 > 0
                            · rw [if_pos c68] at H
                              have c68b0 : decide (0 < x11_4) = true := decide_eq_true c68
                              clear c68
                              have H' := Aside0.mk H
                              clear H
                              have hnb69 := NB121_116.out
                              have hnc69 := NB116_121.out
                              have hcz70_0 : wr.cell? ⟨gb121, 0, none⟩ = some (.int .i64 t128) := (blk_cell BK121.out 0).trans rfl
                              have hcz70_1 : wr.cell? ⟨gb121, 1, none⟩ = some (.bool t129) := (blk_cell BK121.out 1).trans rfl
                              have hcz70_2 : wr.cell? ⟨gb121, 2, none⟩ = some (.int .u64 t130) := (blk_cell BK121.out 2).trans rfl
                              have hcz70_3 : wr.cell? ⟨gb121, 3, none⟩ = some (.int .i64 t131) := (blk_cell BK121.out 3).trans rfl
                              have hfz70_0 := blk_frozen BK121.out 0
                              have hfz70_1 := blk_frozen BK121.out 1
                              have hfz70_2 := blk_frozen BK121.out 2
                              have hfz70_3 := blk_frozen BK121.out 3
                              go_wp2
                              go_roundg k4
                              case measure => have := HJ4.out; have := HJ32.out; have := HJ41.out; have := HK4.out; omega
                              case rel => exact ⟨(IntKind.u64.wrap (x8_4 * 2)), (IntKind.u64.wrap (x9_4 * 2)), (wrap64 (x10_4 - 1)), (wrap64 (x11_4 + 1)), (by first | rfl | (refine congrArg Ending.returned (congrArg (Value.int .i64) (?_ : (0 : Int) = _)); decide +kernel) | (simp; done) | (simp [*]; done)), (by first | rfl | (refine congrArg Ending.returned (congrArg (Value.int .i64) (?_ : (0 : Int) = _)); decide +kernel) | (simp; done) | (simp [*]; done)), (by first | rfl | (refine congrArg Ending.returned (congrArg (Value.int .i64) (?_ : (0 : Int) = _)); decide +kernel) | (simp; done) | (simp [*]; done)), (by first | rfl | (refine congrArg Ending.returned (congrArg (Value.int .i64) (?_ : (0 : Int) = _)); decide +kernel) | (simp; done) | (simp [*]; done)), H', ⟨by have := HJ4.out; have := HJ32.out; have := HJ41.out; have := HK4.out; omega⟩, ⟨by (with_reducible repeat (first | refine blk_drewN ?_ _ | refine blk_drew ?_ | refine blk_alloc ?_ _)); exact BK116.out⟩, ⟨by (with_reducible repeat (first | refine blk_drewN ?_ _ | refine blk_drew ?_ | refine blk_alloc ?_ _)); exact BK121.out⟩, ⟨by repeat (first | (with_reducible first | exact HB.out | apply below_alloc | apply pw_below_drewN | apply below_drew1 | refine below_set ?_ GE116.out | refine below_set ?_ GE121.out) | exact HB.out)⟩⟩
                            · rw [if_neg c68] at H
                              have c68b0 : decide (0 < x11_4) = false := decide_eq_false c68
                              clear c68
                              have H' := Aside0.mk H
                              clear H
                              have hnb71 := NB121_116.out
                              have hnc71 := NB116_121.out
                              have hcz72_0 : wr.cell? ⟨gb121, 0, none⟩ = some (.int .i64 t128) := (blk_cell BK121.out 0).trans rfl
                              have hcz72_1 : wr.cell? ⟨gb121, 1, none⟩ = some (.bool t129) := (blk_cell BK121.out 1).trans rfl
                              have hcz72_2 : wr.cell? ⟨gb121, 2, none⟩ = some (.int .u64 t130) := (blk_cell BK121.out 2).trans rfl
                              have hcz72_3 : wr.cell? ⟨gb121, 3, none⟩ = some (.int .i64 t131) := (blk_cell BK121.out 3).trans rfl
                              have hfz72_0 := blk_frozen BK121.out 0
                              have hfz72_1 := blk_frozen BK121.out 1
                              have hfz72_2 := blk_frozen BK121.out 2
                              have hfz72_3 := blk_frozen BK121.out 3
                              go_wp2
                              go_roundg k4
                              case measure => have := HJ4.out; have := HJ32.out; have := HJ41.out; have := HK4.out; omega
                              case rel => exact ⟨(IntKind.u64.wrap (x8_4 * 2)), (IntKind.u64.wrap (x9_4 * 2)), (x10_4), (wrap64 (x11_4 + 1)), (by first | rfl | (refine congrArg Ending.returned (congrArg (Value.int .i64) (?_ : (0 : Int) = _)); decide +kernel) | (simp; done) | (simp [*]; done)), (by first | rfl | (refine congrArg Ending.returned (congrArg (Value.int .i64) (?_ : (0 : Int) = _)); decide +kernel) | (simp; done) | (simp [*]; done)), (by first | rfl | (refine congrArg Ending.returned (congrArg (Value.int .i64) (?_ : (0 : Int) = _)); decide +kernel) | (simp; done) | (simp [*]; done)), (by first | rfl | (refine congrArg Ending.returned (congrArg (Value.int .i64) (?_ : (0 : Int) = _)); decide +kernel) | (simp; done) | (simp [*]; done)), H', ⟨by have := HJ4.out; have := HJ32.out; have := HJ41.out; have := HK4.out; omega⟩, ⟨by (with_reducible repeat (first | refine blk_drewN ?_ _ | refine blk_drew ?_ | refine blk_alloc ?_ _)); exact BK116.out⟩, ⟨by (with_reducible repeat (first | refine blk_drewN ?_ _ | refine blk_drew ?_ | refine blk_alloc ?_ _)); exact BK121.out⟩, ⟨by repeat (first | (with_reducible first | exact HB.out | apply below_alloc | apply pw_below_drewN | apply below_drew1 | refine below_set ?_ GE116.out | refine below_set ?_ GE121.out) | exact HB.out)⟩⟩
                        · rw [if_neg c61] at H
                          have c61b0 : decide (x11_4 < 62) = false := decide_eq_false c61
                          clear c61
                          replace H := Option.bind_eq_some_iff.mp H
                          obtain ⟨t132, A730, H⟩ := H
                          replace H : (some t132) = some r := H
                          have A73 := Aside0.mk A730
                          clear A730
                          obtain rfl := Option.some.inj H
                          go_wp2_with (first | ((with_reducible refine gate_callee (f := 31) rfl ?_); refine goesL_ (some 104) rfl rfl Try.func31 (by kernel_rfl) rfl #[.bool (t113 != t118), .int .u64 x9_4, .int .i64 x10_4, .bool (decide (x8_4 > 0))] rfl (by (try simp only [List.map_toArray, List.map_cons, List.map_nil]); first | done | rfl | (simp only [List.length_drop, List.length_take]; rfl)) ?_; (with_reducible refine (spec_RoundTo.calls k4 (t113 != t118) x9_4 x10_4 (decide (x8_4 > 0)) t132 _ A73.out).mono ?_); rintro e w' ⟨rfl, ⟨nd, rfl⟩⟩; refine ⟨_, rfl, ?_⟩))
                          go_ret
                          exact ⟨by first | rfl | (refine congrArg Ending.returned (congrArg (Value.int .i64) (?_ : (0 : Int) = _)); decide +kernel) | (simp [errW_none, errW_some] <;> rfl) | (simp [*, errW_none, errW_some] <;> rfl), by repeat (first | (with_reducible first | exact HB.out | apply below_alloc | apply pw_below_drewN | apply below_drew1 | refine below_set ?_ GE116.out | refine below_set ?_ GE121.out) | exact HB.out)⟩

end Go.Proofs.Ytkkohiflkhicpaa.MFnExactDiv
