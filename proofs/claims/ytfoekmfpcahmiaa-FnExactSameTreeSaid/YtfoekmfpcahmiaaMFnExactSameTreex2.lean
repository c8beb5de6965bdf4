-- by this session's own program mp.py over the kit's printer
import Derived.Test.YtfoekmfpcahmiaaMFnExactSameTreex0
import Derived.Test.YtfoekmfpcahmiaaGFill
namespace Go.Proofs.Ytfoekmfpcahmiaa.MFnExactSameTree
open Go.RowKit Go.Proofs.YtfoekmfpcahmiaaW.PrintWords Go.Proofs.YtfoekmfpcahmiaaW.PrintLast Go.Proofs.YtfoekmfpcahmiaaW.PrintMore
attribute [local go_sem] max2_int min2_int max_two min_two max_three min_three max_four min_four   -- for this text's walks alone
set_option linter.unusedVariables false
set_option linter.unusedSimpArgs false

/-! ### spec_SameTree: function 5 -/
mutual
def spec_SameTree.l0 : Nat → List (S34) → List (S34) → Int → Option (Bool)
  | 0, _, _, _ => none
  | k + 1, x0, x1, x5 => if x5 < (x0.length : Int) then (if 0 ≤ x5 then (if x5 < (x1.length : Int) then (if ((rd_T34 x0 x5).f0) = ((rd_T34 x1 x5).f0) then (if ((rd_T34 x0 x5).f1) = ((rd_T34 x1 x5).f1) then (if ((rd_T34 x0 x5).f2) = ((rd_T34 x1 x5).f2) then (if ((rd_T34 x0 x5).f3) = ((rd_T34 x1 x5).f3) then (if ((rd_T34 x0 x5).f6) = ((rd_T34 x1 x5).f6) then (if (((rd_T34 x0 x5).f4).length : Int) = (((rd_T34 x1 x5).f4).length : Int) then (spec_SameTree.j1 k x0 x1 x5 ((((rd_T34 x0 x5).f5).length : Int) != (((rd_T34 x1 x5).f5).length : Int)) ((rd_T34 x0 x5).f0) ((rd_T34 x0 x5).f1) ((rd_T34 x0 x5).f2) ((rd_T34 x0 x5).f3) ((rd_T34 x0 x5).f4) ((rd_T34 x0 x5).f5) ((rd_T34 x0 x5).f6) ((rd_T34 x0 x5).f7) ((rd_T34 x1 x5).f0) ((rd_T34 x1 x5).f1) ((rd_T34 x1 x5).f2) ((rd_T34 x1 x5).f3) ((rd_T34 x1 x5).f4) ((rd_T34 x1 x5).f5) ((rd_T34 x1 x5).f6) ((rd_T34 x1 x5).f7)) else (spec_SameTree.j1 k x0 x1 x5 true ((rd_T34 x0 x5).f0) ((rd_T34 x0 x5).f1) ((rd_T34 x0 x5).f2) ((rd_T34 x0 x5).f3) ((rd_T34 x0 x5).f4) ((rd_T34 x0 x5).f5) ((rd_T34 x0 x5).f6) ((rd_T34 x0 x5).f7) ((rd_T34 x1 x5).f0) ((rd_T34 x1 x5).f1) ((rd_T34 x1 x5).f2) ((rd_T34 x1 x5).f3) ((rd_T34 x1 x5).f4) ((rd_T34 x1 x5).f5) ((rd_T34 x1 x5).f6) ((rd_T34 x1 x5).f7))) else (spec_SameTree.j1 k x0 x1 x5 true ((rd_T34 x0 x5).f0) ((rd_T34 x0 x5).f1) ((rd_T34 x0 x5).f2) ((rd_T34 x0 x5).f3) ((rd_T34 x0 x5).f4) ((rd_T34 x0 x5).f5) ((rd_T34 x0 x5).f6) ((rd_T34 x0 x5).f7) ((rd_T34 x1 x5).f0) ((rd_T34 x1 x5).f1) ((rd_T34 x1 x5).f2) ((rd_T34 x1 x5).f3) ((rd_T34 x1 x5).f4) ((rd_T34 x1 x5).f5) ((rd_T34 x1 x5).f6) ((rd_T34 x1 x5).f7))) else (spec_SameTree.j1 k x0 x1 x5 true ((rd_T34 x0 x5).f0) ((rd_T34 x0 x5).f1) ((rd_T34 x0 x5).f2) ((rd_T34 x0 x5).f3) ((rd_T34 x0 x5).f4) ((rd_T34 x0 x5).f5) ((rd_T34 x0 x5).f6) ((rd_T34 x0 x5).f7) ((rd_T34 x1 x5).f0) ((rd_T34 x1 x5).f1) ((rd_T34 x1 x5).f2) ((rd_T34 x1 x5).f3) ((rd_T34 x1 x5).f4) ((rd_T34 x1 x5).f5) ((rd_T34 x1 x5).f6) ((rd_T34 x1 x5).f7))) else (spec_SameTree.j1 k x0 x1 x5 true ((rd_T34 x0 x5).f0) ((rd_T34 x0 x5).f1) ((rd_T34 x0 x5).f2) ((rd_T34 x0 x5).f3) ((rd_T34 x0 x5).f4) ((rd_T34 x0 x5).f5) ((rd_T34 x0 x5).f6) ((rd_T34 x0 x5).f7) ((rd_T34 x1 x5).f0) ((rd_T34 x1 x5).f1) ((rd_T34 x1 x5).f2) ((rd_T34 x1 x5).f3) ((rd_T34 x1 x5).f4) ((rd_T34 x1 x5).f5) ((rd_T34 x1 x5).f6) ((rd_T34 x1 x5).f7))) else (spec_SameTree.j1 k x0 x1 x5 true ((rd_T34 x0 x5).f0) ((rd_T34 x0 x5).f1) ((rd_T34 x0 x5).f2) ((rd_T34 x0 x5).f3) ((rd_T34 x0 x5).f4) ((rd_T34 x0 x5).f5) ((rd_T34 x0 x5).f6) ((rd_T34 x0 x5).f7) ((rd_T34 x1 x5).f0) ((rd_T34 x1 x5).f1) ((rd_T34 x1 x5).f2) ((rd_T34 x1 x5).f3) ((rd_T34 x1 x5).f4) ((rd_T34 x1 x5).f5) ((rd_T34 x1 x5).f6) ((rd_T34 x1 x5).f7))) else (spec_SameTree.j1 k x0 x1 x5 true ((rd_T34 x0 x5).f0) ((rd_T34 x0 x5).f1) ((rd_T34 x0 x5).f2) ((rd_T34 x0 x5).f3) ((rd_T34 x0 x5).f4) ((rd_T34 x0 x5).f5) ((rd_T34 x0 x5).f6) ((rd_T34 x0 x5).f7) ((rd_T34 x1 x5).f0) ((rd_T34 x1 x5).f1) ((rd_T34 x1 x5).f2) ((rd_T34 x1 x5).f3) ((rd_T34 x1 x5).f4) ((rd_T34 x1 x5).f5) ((rd_T34 x1 x5).f6) ((rd_T34 x1 x5).f7))) else (none)) else (none)) else (some true)
def spec_SameTree.j1 : Nat → List (S34) → List (S34) → Int → Bool → Int → Int → Int → Int → List Int → List ByteArray → Int → Int → Int → Int → Int → Int → List Int → List ByteArray → Int → Int → Option (Bool)
  | 0, _, _, _, _, _, _, _, _, _, _, _, _, _, _, _, _, _, _, _, _ => none
  | k + 1, x0, x1, x5, x79, x109000, x109001, x109002, x109003, x109004, x109005, x109006, x109007, x111000, x111001, x111002, x111003, x111004, x111005, x111006, x111007 => if x79 = true then (some false) else (spec_SameTree.l1 k x0 x1 x5 0 x109000 x109001 x109002 x109003 x109004 x109005 x109006 x109007 x111000 x111001 x111002 x111003 x111004 x111005 x111006 x111007)
def spec_SameTree.l1 : Nat → List (S34) → List (S34) → Int → Int → Int → Int → Int → Int → List Int → List ByteArray → Int → Int → Int → Int → Int → Int → List Int → List ByteArray → Int → Int → Option (Bool)
  | 0, _, _, _, _, _, _, _, _, _, _, _, _, _, _, _, _, _, _, _, _ => none
  | k + 1, x0, x1, x5, x8, x109000, x109001, x109002, x109003, x109004, x109005, x109006, x109007, x111000, x111001, x111002, x111003, x111004, x111005, x111006, x111007 => if x8 < (x109004.length : Int) then (if 0 ≤ x8 then (if x8 < (x111004.length : Int) then (if (rd x109004 x8) = (rd x111004 x8) then (spec_SameTree.l1 k x0 x1 x5 (wrap64 (x8 + 1)) x109000 x109001 x109002 x109003 x109004 x109005 x109006 x109007 x111000 x111001 x111002 x111003 x111004 x111005 x111006 x111007) else (some false)) else (none)) else (none)) else (spec_SameTree.l2 k x0 x1 x5 0 x109000 x109001 x109002 x109003 x109004 x109005 x109006 x109007 x111000 x111001 x111002 x111003 x111004 x111005 x111006 x111007)
def spec_SameTree.l2 : Nat → List (S34) → List (S34) → Int → Int → Int → Int → Int → Int → List Int → List ByteArray → Int → Int → Int → Int → Int → Int → List Int → List ByteArray → Int → Int → Option (Bool)
  | 0, _, _, _, _, _, _, _, _, _, _, _, _, _, _, _, _, _, _, _, _ => none
  | k + 1, x0, x1, x5, x9, x109000, x109001, x109002, x109003, x109004, x109005, x109006, x109007, x111000, x111001, x111002, x111003, x111004, x111005, x111006, x111007 => if x9 < (x109005.length : Int) then (if 0 ≤ x9 then (if x9 < (x111005.length : Int) then (if (rdOf ByteArray.empty x109005 x9).toList = (rdOf ByteArray.empty x111005 x9).toList then (spec_SameTree.l2 k x0 x1 x5 (wrap64 (x9 + 1)) x109000 x109001 x109002 x109003 x109004 x109005 x109006 x109007 x111000 x111001 x111002 x111003 x111004 x111005 x111006 x111007) else (some false)) else (none)) else (none)) else (spec_SameTree.l0 k x0 x1 (wrap64 (x5 + 1)))
end
def spec_SameTree.f (k : Nat) (l0 : List (S34)) (l1 : List (S34)) : Option (Bool) := if (l0.length : Int) = (l1.length : Int) then (spec_SameTree.l0 k l0 l1 0) else (some false)
theorem spec_SameTree.mono_l : ∀ k, (∀ y0 y1 y2, LeO (spec_SameTree.l0 k y0 y1 y2) (spec_SameTree.l0 (k + 1) y0 y1 y2)) ∧ (∀ y0 y1 y2 y3 y4 y5 y6 y7 y8 y9 y10 y11 y12 y13 y14 y15 y16 y17 y18 y19, LeO (spec_SameTree.j1 k y0 y1 y2 y3 y4 y5 y6 y7 y8 y9 y10 y11 y12 y13 y14 y15 y16 y17 y18 y19) (spec_SameTree.j1 (k + 1) y0 y1 y2 y3 y4 y5 y6 y7 y8 y9 y10 y11 y12 y13 y14 y15 y16 y17 y18 y19)) ∧ (∀ y0 y1 y2 y3 y4 y5 y6 y7 y8 y9 y10 y11 y12 y13 y14 y15 y16 y17 y18 y19, LeO (spec_SameTree.l1 k y0 y1 y2 y3 y4 y5 y6 y7 y8 y9 y10 y11 y12 y13 y14 y15 y16 y17 y18 y19) (spec_SameTree.l1 (k + 1) y0 y1 y2 y3 y4 y5 y6 y7 y8 y9 y10 y11 y12 y13 y14 y15 y16 y17 y18 y19)) ∧ (∀ y0 y1 y2 y3 y4 y5 y6 y7 y8 y9 y10 y11 y12 y13 y14 y15 y16 y17 y18 y19, LeO (spec_SameTree.l2 k y0 y1 y2 y3 y4 y5 y6 y7 y8 y9 y10 y11 y12 y13 y14 y15 y16 y17 y18 y19) (spec_SameTree.l2 (k + 1) y0 y1 y2 y3 y4 y5 y6 y7 y8 y9 y10 y11 y12 y13 y14 y15 y16 y17 y18 y19))
  | 0 => ⟨fun _ _ _ r h => by simp [spec_SameTree.l0] at h, fun _ _ _ _ _ _ _ _ _ _ _ _ _ _ _ _ _ _ _ _ r h => by simp [spec_SameTree.j1] at h, fun _ _ _ _ _ _ _ _ _ _ _ _ _ _ _ _ _ _ _ _ r h => by simp [spec_SameTree.l1] at h, fun _ _ _ _ _ _ _ _ _ _ _ _ _ _ _ _ _ _ _ _ r h => by simp [spec_SameTree.l2] at h⟩
  | k + 1 => by
    obtain ⟨ih0, ih1, ih2, ih3⟩ := spec_SameTree.mono_l k
    refine ⟨?_, ?_, ?_, ?_⟩
    · intro y0 y1 y2
      unfold spec_SameTree.l0
      repeat' first
      | (with_reducible exact ih0 _ _ _)
      | (with_reducible exact ih1 _ _ _ _ _ _ _ _ _ _ _ _ _ _ _ _ _ _ _ _)
      | (with_reducible exact ih2 _ _ _ _ _ _ _ _ _ _ _ _ _ _ _ _ _ _ _ _)
      | (with_reducible exact ih3 _ _ _ _ _ _ _ _ _ _ _ _ _ _ _ _ _ _ _ _)
      | (with_reducible exact LeO.refl _)
      | (with_reducible exact LeO.none _)
      | (with_reducible refine LeO.ite ?_ ?_)
      | (with_reducible refine LeO.bind ?_ (fun _ => ?_))
      | exact ih0 _ _ _
      | exact ih1 _ _ _ _ _ _ _ _ _ _ _ _ _ _ _ _ _ _ _ _
      | exact ih2 _ _ _ _ _ _ _ _ _ _ _ _ _ _ _ _ _ _ _ _
      | exact ih3 _ _ _ _ _ _ _ _ _ _ _ _ _ _ _ _ _ _ _ _
      | exact LeO.none _
      | refine LeO.ite ?_ ?_
      | refine LeO.bind ?_ (fun _ => ?_)
    · intro y0 y1 y2 y3 y4 y5 y6 y7 y8 y9 y10 y11 y12 y13 y14 y15 y16 y17 y18 y19
      unfold spec_SameTree.j1
      repeat' first
      | (with_reducible exact ih0 _ _ _)
      | (with_reducible exact ih1 _ _ _ _ _ _ _ _ _ _ _ _ _ _ _ _ _ _ _ _)
      | (with_reducible exact ih2 _ _ _ _ _ _ _ _ _ _ _ _ _ _ _ _ _ _ _ _)
      | (with_reducible exact ih3 _ _ _ _ _ _ _ _ _ _ _ _ _ _ _ _ _ _ _ _)
      | (with_reducible exact LeO.refl _)
      | (with_reducible exact LeO.none _)
      | (with_reducible refine LeO.ite ?_ ?_)
      | (with_reducible refine LeO.bind ?_ (fun _ => ?_))
      | exact ih0 _ _ _
      | exact ih1 _ _ _ _ _ _ _ _ _ _ _ _ _ _ _ _ _ _ _ _
      | exact ih2 _ _ _ _ _ _ _ _ _ _ _ _ _ _ _ _ _ _ _ _
      | exact ih3 _ _ _ _ _ _ _ _ _ _ _ _ _ _ _ _ _ _ _ _
      | exact LeO.none _
      | refine LeO.ite ?_ ?_
      | refine LeO.bind ?_ (fun _ => ?_)
    · intro y0 y1 y2 y3 y4 y5 y6 y7 y8 y9 y10 y11 y12 y13 y14 y15 y16 y17 y18 y19
      unfold spec_SameTree.l1
      repeat' first
      | (with_reducible exact ih0 _ _ _)
      | (with_reducible exact ih1 _ _ _ _ _ _ _ _ _ _ _ _ _ _ _ _ _ _ _ _)
      | (with_reducible exact ih2 _ _ _ _ _ _ _ _ _ _ _ _ _ _ _ _ _ _ _ _)
      | (with_reducible exact ih3 _ _ _ _ _ _ _ _ _ _ _ _ _ _ _ _ _ _ _ _)
      | (with_reducible exact LeO.refl _)
      | (with_reducible exact LeO.none _)
      | (with_reducible refine LeO.ite ?_ ?_)
      | (with_reducible refine LeO.bind ?_ (fun _ => ?_))
      | exact ih0 _ _ _
      | exact ih1 _ _ _ _ _ _ _ _ _ _ _ _ _ _ _ _ _ _ _ _
      | exact ih2 _ _ _ _ _ _ _ _ _ _ _ _ _ _ _ _ _ _ _ _
      | exact ih3 _ _ _ _ _ _ _ _ _ _ _ _ _ _ _ _ _ _ _ _
      | exact LeO.none _
      | refine LeO.ite ?_ ?_
      | refine LeO.bind ?_ (fun _ => ?_)
    · intro y0 y1 y2 y3 y4 y5 y6 y7 y8 y9 y10 y11 y12 y13 y14 y15 y16 y17 y18 y19
      unfold spec_SameTree.l2
      repeat' first
      | (with_reducible exact ih0 _ _ _)
      | (with_reducible exact ih1 _ _ _ _ _ _ _ _ _ _ _ _ _ _ _ _ _ _ _ _)
      | (with_reducible exact ih2 _ _ _ _ _ _ _ _ _ _ _ _ _ _ _ _ _ _ _ _)
      | (with_reducible exact ih3 _ _ _ _ _ _ _ _ _ _ _ _ _ _ _ _ _ _ _ _)
      | (with_reducible exact LeO.refl _)
      | (with_reducible exact LeO.none _)
      | (with_reducible refine LeO.ite ?_ ?_)
      | (with_reducible refine LeO.bind ?_ (fun _ => ?_))
      | exact ih0 _ _ _
      | exact ih1 _ _ _ _ _ _ _ _ _ _ _ _ _ _ _ _ _ _ _ _
      | exact ih2 _ _ _ _ _ _ _ _ _ _ _ _ _ _ _ _ _ _ _ _
      | exact ih3 _ _ _ _ _ _ _ _ _ _ _ _ _ _ _ _ _ _ _ _
      | exact LeO.none _
      | refine LeO.ite ?_ ?_
      | refine LeO.bind ?_ (fun _ => ?_)
theorem spec_SameTree.mono : ∀ a0 a1 k, LeO (spec_SameTree.f k a0 a1) (spec_SameTree.f (k + 1) a0 a1) := by
  intro a0 a1 k
  obtain ⟨ih0, ih1, ih2, ih3⟩ := spec_SameTree.mono_l k
  unfold spec_SameTree.f
  repeat' first
      | (with_reducible exact ih0 _ _ _)
      | (with_reducible exact ih1 _ _ _ _ _ _ _ _ _ _ _ _ _ _ _ _ _ _ _ _)
      | (with_reducible exact ih2 _ _ _ _ _ _ _ _ _ _ _ _ _ _ _ _ _ _ _ _)
      | (with_reducible exact ih3 _ _ _ _ _ _ _ _ _ _ _ _ _ _ _ _ _ _ _ _)
      | (with_reducible exact LeO.refl _)
      | (with_reducible exact LeO.none _)
      | (with_reducible refine LeO.ite ?_ ?_)
      | (with_reducible refine LeO.bind ?_ (fun _ => ?_))
      | exact ih0 _ _ _
      | exact ih1 _ _ _ _ _ _ _ _ _ _ _ _ _ _ _ _ _ _ _ _
      | exact ih2 _ _ _ _ _ _ _ _ _ _ _ _ _ _ _ _ _ _ _ _
      | exact ih3 _ _ _ _ _ _ _ _ _ _ _ _ _ _ _ _ _ _ _ _
      | exact LeO.none _
      | refine LeO.ite ?_ ?_
      | refine LeO.bind ?_ (fun _ => ?_)
set_option maxHeartbeats 100000000 in
set_option maxRecDepth 100000 in
theorem spec_SameTree.calls (k : Nat) (A0 : Option Addr) (c0 : Nat) (l0 : List (S34)) (A1 : Option Addr) (c1 : Nat) (l1 : List (S34)) (r : Bool) (w : World) (hr0 : Kd.C k34 w A0 l0.length l0) (hc0 : l0.length ≤ c0) (hr1 : Kd.C k34 w A1 l1.length l1) (hc1 : l1.length ≤ c1) (h : spec_SameTree.f k l0 l1 = some r) :
    Calls Try.prog 5 #[.slice A0 l0.length c0, .slice A1 l1.length c1] w fun e w' => e = .returned (.bool r) ∧ Below w.heap.size w w' := by
  have hu34 := Try.underlying34
  have HR0 := Aside0.mk hr0
  have HC0 := Aside0.mk hc0
  clear hr0 hc0
  have HR1 := Aside0.mk hr1
  have HC1 := Aside0.mk hc1
  clear hr1 hc1
  have HB := Aside0.mk (Below.refl w.heap.size w)
  have H : (if (l0.length : Int) = (l1.length : Int) then (spec_SameTree.l0 k l0 l1 0) else (some false)) = some r := h
  clear h
  by_cases c3 : (l0.length : Int) = (l1.length : Int)
  · rw [if_pos c3] at H
    have c3b0 : ((l0.length : Int) == (l1.length : Int)) = true := beq_iff_eq.mpr c3
    have c3b1 : ((l0.length : Int) != (l1.length : Int)) = false := bne_eq_false_iff_eq.mpr c3
    have c3b2 : (l0.length == l1.length) = true := by first | simpa using c3 | (simp at c3 ⊢; omega)
    clear c3
    have H' := Aside0.mk H
    clear H
    go_enter Try.func5, Try.ntmps5
    go_wp2
    repeat (go_quiet (fail); try go_wp2)
    go_loopg [5] k (fun kq v5 w' => ∃ (x5_1 : Int), v5 = .int .i64 x5_1 ∧ Aside0 (spec_SameTree.l0 kq l0 l1 x5_1 = some r) ∧ Aside0 (kq ≤ k) ∧ Aside0 (Below w.heap.size w w'))
    case atStart => exact ⟨(0), (by first | rfl | (refine congrArg Ending.returned (congrArg (Value.int .i64) (?_ : (0 : Int) = _)); decide +kernel) | (simp; done) | (simp [*]; done)), H', ⟨Nat.le_refl _⟩, ⟨by repeat (first | (with_reducible first | exact HB.out | apply below_alloc | apply pw_below_drewN | apply below_drew1) | exact HB.out)⟩⟩
    case round =>
      clear H'
      try clear c1
      try clear p2
      try clear c3
      try clear c3b0
      try clear c3b1
      try clear c3b2
      obtain ⟨x5_1, rfl, HA, HK1, HB⟩ := hrel
      cases gk with
      | zero => exact absurd HA.out (by simp [spec_SameTree.l0])
      | succ k1 =>
        have H := HA.out
        clear HA
        simp only [spec_SameTree.l0] at H
        by_cases c4 : x5_1 < (l0.length : Int)
        · rw [if_pos c4] at H
          have c4b0 : decide (x5_1 < (l0.length : Int)) = true := decide_eq_true c4
          clear c4
          by_cases c5 : 0 ≤ x5_1
          · rw [if_pos c5] at H
            have c5b0 : decide (0 ≤ x5_1) = true := decide_eq_true c5
            clear c5
            by_cases c6 : x5_1 < (l1.length : Int)
            · rw [if_pos c6] at H
              have c6b0 : decide (x5_1 < (l1.length : Int)) = true := decide_eq_true c6
              clear c6
              have HC7 := Aside0.mk H
              clear H
              have p107 : 0 ≤ (x5_1 : Int) := of_decide_eq_true (by first | (with_reducible assumption) | assumption)
              have q107 : x5_1 < (l0.length : Int) := of_decide_eq_true (by first | (with_reducible assumption) | assumption)
              obtain ⟨ad107, A107_4, c107_4, A107_5, c107_5, e107, hx107_0, hx107_1, hx107_2, hx107_3, hx107_4, hx107_5, hx107_6, hx107_7, hl107_4, hi107_4, hl107_5, hi107_5⟩ := at_T34 HR0.out x5_1 p107 q107
              cases e107
              replace hx107_0 := (HB.out.cell (World.block_lt_of_cell? w _ hx107_0)).trans hx107_0
              replace hx107_1 := (HB.out.cell (World.block_lt_of_cell? w _ hx107_1)).trans hx107_1
              replace hx107_2 := (HB.out.cell (World.block_lt_of_cell? w _ hx107_2)).trans hx107_2
              replace hx107_3 := (HB.out.cell (World.block_lt_of_cell? w _ hx107_3)).trans hx107_3
              replace hx107_4 := (HB.out.cell (World.block_lt_of_cell? w _ hx107_4)).trans hx107_4
              replace hx107_5 := (HB.out.cell (World.block_lt_of_cell? w _ hx107_5)).trans hx107_5
              replace hx107_6 := (HB.out.cell (World.block_lt_of_cell? w _ hx107_6)).trans hx107_6
              replace hx107_7 := (HB.out.cell (World.block_lt_of_cell? w _ hx107_7)).trans hx107_7
              have HR107_4 := Aside0.mk hi107_4
              have HC107_4 := Aside0.mk hl107_4
              clear hi107_4 hl107_4
              have HR107_5 := Aside0.mk hi107_5
              have HC107_5 := Aside0.mk hl107_5
              clear hi107_5 hl107_5
              replace p107 := eq_true p107
              replace q107 := eq_true q107
              go_upto_region 8 with (first | ((with_reducible refine gate_dst (N := 6) rfl ?_); (try (refine gate_guard (by rfl) ?_; dsimp only)); refine Go.Proofs.Ytfoekmfpcahmiaa.G.filled_event (N := 6) ?hg ?hg2 ?hd ?hd2 (x := .tmp 24) (cs := #[.int .i64 0, .int .i64 0, .int .i64 0, .int .i64 0, .slice none 0 0, .slice none 0 0, .int .u64 0, .int .i64 0]) (cs' := #[.int .i64 ((rd_T34 l0 x5_1).f0), .int .i64 ((rd_T34 l0 x5_1).f1), .int .i64 ((rd_T34 l0 x5_1).f2), .int .i64 ((rd_T34 l0 x5_1).f3), (.slice A107_4 ((rd_T34 l0 x5_1).f4).length c107_4), (.slice A107_5 ((rd_T34 l0 x5_1).f5).length c107_5), .int .u64 ((rd_T34 l0 x5_1).f6), .int .i64 ((rd_T34 l0 x5_1).f7)]) (t := 34) ?hr rfl ?hx ?hN ?hi rfl ?h1 ?_; (case hd => rfl); (case hd2 => rfl); (case hg => rfl); (case hg2 => rfl); (case hr => first | (go_simp; done) | (go_simp; rfl)); (case hx => intro _; rfl); (case hN => intro _; rfl); (case hi => kernel_rfl); (case h1 => first | (simp [Value.oneCell']; done) | (simp; done) | (simp; exact ⟨rfl, rfl, rfl, rfl, rfl, rfl, rfl, rfl⟩)); intro gb108 hg w8 hbox hb; have n0_ := Aside0.mk (below_step (by repeat (first | (with_reducible first | exact HB.out | apply below_alloc | apply pw_below_drewN | apply below_drew1) | exact HB.out)) hb); have n1_ := Aside0.mk (hbox); have n2_ := Aside0.mk ((by rw [hg]; exact (below_size (by repeat (first | (with_reducible first | exact HB.out | apply below_alloc | apply pw_below_drewN | apply below_drew1) | exact HB.out))) : w.heap.size ≤ gb108)); clear HB; have HB := n0_; have BK108 := n1_; have GW108 := n2_; have GE108 := n2_; clear n0_ n1_ n2_; clear hb hbox hg; have p109 : 0 ≤ (x5_1 : Int) := of_decide_eq_true (by first | (with_reducible assumption) | assumption); have q109 : x5_1 < (l1.length : Int) := of_decide_eq_true (by first | (with_reducible assumption) | assumption); obtain ⟨ad109, A109_4, c109_4, A109_5, c109_5, e109, hx109_0, hx109_1, hx109_2, hx109_3, hx109_4, hx109_5, hx109_6, hx109_7, hl109_4, hi109_4, hl109_5, hi109_5⟩ := at_T34 HR1.out x5_1 p109 q109; cases e109; replace hx109_0 := (HB.out.cell (World.block_lt_of_cell? w _ hx109_0)).trans hx109_0; replace hx109_1 := (HB.out.cell (World.block_lt_of_cell? w _ hx109_1)).trans hx109_1; replace hx109_2 := (HB.out.cell (World.block_lt_of_cell? w _ hx109_2)).trans hx109_2; replace hx109_3 := (HB.out.cell (World.block_lt_of_cell? w _ hx109_3)).trans hx109_3; replace hx109_4 := (HB.out.cell (World.block_lt_of_cell? w _ hx109_4)).trans hx109_4; replace hx109_5 := (HB.out.cell (World.block_lt_of_cell? w _ hx109_5)).trans hx109_5; replace hx109_6 := (HB.out.cell (World.block_lt_of_cell? w _ hx109_6)).trans hx109_6; replace hx109_7 := (HB.out.cell (World.block_lt_of_cell? w _ hx109_7)).trans hx109_7; have HR109_4 := Aside0.mk hi109_4; have HC109_4 := Aside0.mk hl109_4; clear hi109_4 hl109_4; have HR109_5 := Aside0.mk hi109_5; have HC109_5 := Aside0.mk hl109_5; clear hi109_5 hl109_5; replace p109 := eq_true p109; replace q109 := eq_true q109) | ((with_reducible refine gate_dst (N := 7) rfl ?_); (try (refine gate_guard (by rfl) ?_; dsimp only)); refine Go.Proofs.Ytfoekmfpcahmiaa.G.filled_event (N := 7) ?hg ?hg2 ?hd ?hd2 (x := .tmp 28) (cs := #[.int .i64 0, .int .i64 0, .int .i64 0, .int .i64 0, .slice none 0 0, .slice none 0 0, .int .u64 0, .int .i64 0]) (cs' := #[.int .i64 ((rd_T34 l1 x5_1).f0), .int .i64 ((rd_T34 l1 x5_1).f1), .int .i64 ((rd_T34 l1 x5_1).f2), .int .i64 ((rd_T34 l1 x5_1).f3), (.slice A109_4 ((rd_T34 l1 x5_1).f4).length c109_4), (.slice A109_5 ((rd_T34 l1 x5_1).f5).length c109_5), .int .u64 ((rd_T34 l1 x5_1).f6), .int .i64 ((rd_T34 l1 x5_1).f7)]) (t := 34) ?hr rfl ?hx ?hN ?hi rfl ?h1 ?_; (case hd => rfl); (case hd2 => rfl); (case hg => rfl); (case hg2 => rfl); (case hr => first | (go_simp; done) | (go_simp; rfl)); (case hx => intro _; rfl); (case hN => intro _; rfl); (case hi => kernel_rfl); (case h1 => first | (simp [Value.oneCell']; done) | (simp; done) | (simp; exact ⟨rfl, rfl, rfl, rfl, rfl, rfl, rfl, rfl⟩)); intro gb110 hg w10 hbox hb; have n0_ := Aside0.mk (below_step (by repeat (first | (with_reducible first | exact HB.out | apply below_alloc | apply pw_below_drewN | apply below_drew1) | exact HB.out)) hb); have n1_ := Aside0.mk (hbox); have n2_ := Aside0.mk ((by rw [hg]; exact (below_size (by repeat (first | (with_reducible first | exact HB.out | apply below_alloc | apply pw_below_drewN | apply below_drew1) | exact HB.out))) : w.heap.size ≤ gb110)); have n3_ := Aside0.mk ((by rw [hg]; exact Nat.ne_of_lt (blk_lt BK108.out)) : gb108 ≠ gb110); have n4_ := Aside0.mk ((by rw [hg]; exact Nat.ne_of_gt (blk_lt BK108.out)) : gb110 ≠ gb108); have n5_ := Aside0.mk ((hb.block _ (blk_lt BK108.out)).trans BK108.out); clear HB BK108; have HB := n0_; have BK108 := n5_; have BK110 := n1_; have GW110 := n2_; have GE110 := n2_; have NB108_110 := n3_; have NB110_108 := n4_; clear n0_ n1_ n2_ n3_ n4_ n5_; clear hb hbox hg))
              skip
              (try simp only [Act.put, List.setIfInBounds_toArray, List.set_cons_zero, List.set_cons_succ])
              go_cut [79] (fun v79 wc => ∃ (kq : Nat) (x79_6 : Bool), v79 = .bool x79_6 ∧ Aside0 (spec_SameTree.j1 kq l0 l1 x5_1 x79_6 ((rd_T34 l0 x5_1).f0) ((rd_T34 l0 x5_1).f1) ((rd_T34 l0 x5_1).f2) ((rd_T34 l0 x5_1).f3) ((rd_T34 l0 x5_1).f4) ((rd_T34 l0 x5_1).f5) ((rd_T34 l0 x5_1).f6) ((rd_T34 l0 x5_1).f7) ((rd_T34 l1 x5_1).f0) ((rd_T34 l1 x5_1).f1) ((rd_T34 l1 x5_1).f2) ((rd_T34 l1 x5_1).f3) ((rd_T34 l1 x5_1).f4) ((rd_T34 l1 x5_1).f5) ((rd_T34 l1 x5_1).f6) ((rd_T34 l1 x5_1).f7) = some r) ∧ Aside0 (kq ≤ k1) ∧ Aside0 (wc.heap[gb108]? = some (.cells #[.int .i64 ((rd_T34 l0 x5_1).f0), .int .i64 ((rd_T34 l0 x5_1).f1), .int .i64 ((rd_T34 l0 x5_1).f2), .int .i64 ((rd_T34 l0 x5_1).f3), (.slice A107_4 ((rd_T34 l0 x5_1).f4).length c107_4), (.slice A107_5 ((rd_T34 l0 x5_1).f5).length c107_5), .int .u64 ((rd_T34 l0 x5_1).f6), .int .i64 ((rd_T34 l0 x5_1).f7)] 34 (0, 0))) ∧ Aside0 (wc.heap[gb110]? = some (.cells #[.int .i64 ((rd_T34 l1 x5_1).f0), .int .i64 ((rd_T34 l1 x5_1).f1), .int .i64 ((rd_T34 l1 x5_1).f2), .int .i64 ((rd_T34 l1 x5_1).f3), (.slice A109_4 ((rd_T34 l1 x5_1).f4).length c109_4), (.slice A109_5 ((rd_T34 l1 x5_1).f5).length c109_5), .int .u64 ((rd_T34 l1 x5_1).f6), .int .i64 ((rd_T34 l1 x5_1).f7)] 34 (0, 0))) ∧ Aside0 (Below w.heap.size w wc))
              case first =>
                have H := HC7.out
                clear HC7
                by_cases c13 : ((rd_T34 l0 x5_1).f0) = ((rd_T34 l1 x5_1).f0)
                · rw [if_pos c13] at H
                  have c13b0 : (((rd_T34 l0 x5_1).f0) == ((rd_T34 l1 x5_1).f0)) = true := beq_iff_eq.mpr c13
                  have c13b1 : (((rd_T34 l0 x5_1).f0) != ((rd_T34 l1 x5_1).f0)) = false := bne_eq_false_iff_eq.mpr c13
                  clear c13
                  (first | rw [c13b0] | (simp only [i64_w, i32_w]; rw [c13b0]) | skip)
                  by_cases c14 : ((rd_T34 l0 x5_1).f1) = ((rd_T34 l1 x5_1).f1)
                  · rw [if_pos c14] at H
                    have c14b0 : (((rd_T34 l0 x5_1).f1) == ((rd_T34 l1 x5_1).f1)) = true := beq_iff_eq.mpr c14
                    have c14b1 : (((rd_T34 l0 x5_1).f1) != ((rd_T34 l1 x5_1).f1)) = false := bne_eq_false_iff_eq.mpr c14
                    clear c14
                    by_cases c15 : ((rd_T34 l0 x5_1).f2) = ((rd_T34 l1 x5_1).f2)
                    · rw [if_pos c15] at H
                      have c15b0 : (((rd_T34 l0 x5_1).f2) == ((rd_T34 l1 x5_1).f2)) = true := beq_iff_eq.mpr c15
                      have c15b1 : (((rd_T34 l0 x5_1).f2) != ((rd_T34 l1 x5_1).f2)) = false := bne_eq_false_iff_eq.mpr c15
                      clear c15
                      by_cases c16 : ((rd_T34 l0 x5_1).f3) = ((rd_T34 l1 x5_1).f3)
                      · rw [if_pos c16] at H
                        have c16b0 : (((rd_T34 l0 x5_1).f3) == ((rd_T34 l1 x5_1).f3)) = true := beq_iff_eq.mpr c16
                        have c16b1 : (((rd_T34 l0 x5_1).f3) != ((rd_T34 l1 x5_1).f3)) = false := bne_eq_false_iff_eq.mpr c16
                        clear c16
                        by_cases c17 : ((rd_T34 l0 x5_1).f6) = ((rd_T34 l1 x5_1).f6)
                        · rw [if_pos c17] at H
                          have c17b0 : (((rd_T34 l0 x5_1).f6) == ((rd_T34 l1 x5_1).f6)) = true := beq_iff_eq.mpr c17
                          have c17b1 : (((rd_T34 l0 x5_1).f6) != ((rd_T34 l1 x5_1).f6)) = false := bne_eq_false_iff_eq.mpr c17
                          clear c17
                          by_cases c18 : (((rd_T34 l0 x5_1).f4).length : Int) = (((rd_T34 l1 x5_1).f4).length : Int)
                          · rw [if_pos c18] at H
                            have c18b0 : ((((rd_T34 l0 x5_1).f4).length : Int) == (((rd_T34 l1 x5_1).f4).length : Int)) = true := beq_iff_eq.mpr c18
                            have c18b1 : ((((rd_T34 l0 x5_1).f4).length : Int) != (((rd_T34 l1 x5_1).f4).length : Int)) = false := bne_eq_false_iff_eq.mpr c18
                            have c18b2 : (((rd_T34 l0 x5_1).f4).length == ((rd_T34 l1 x5_1).f4).length) = true := by first | simpa using c18 | (simp at c18 ⊢; omega)
                            clear c18
                            have H' := Aside0.mk H
                            clear H
                            have hnb19 := NB108_110.out
                            have hnc19 := NB110_108.out
                            have hcz20_0 : w10.cell? ⟨gb108, 0, none⟩ = some (.int .i64 ((rd_T34 l0 x5_1).f0)) := (blk_cell BK108.out 0).trans rfl
                            have hcz20_1 : w10.cell? ⟨gb108, 1, none⟩ = some (.int .i64 ((rd_T34 l0 x5_1).f1)) := (blk_cell BK108.out 1).trans rfl
                            have hcz20_2 : w10.cell? ⟨gb108, 2, none⟩ = some (.int .i64 ((rd_T34 l0 x5_1).f2)) := (blk_cell BK108.out 2).trans rfl
                            have hcz20_3 : w10.cell? ⟨gb108, 3, none⟩ = some (.int .i64 ((rd_T34 l0 x5_1).f3)) := (blk_cell BK108.out 3).trans rfl
                            have hcz20_4 : w10.cell? ⟨gb108, 4, none⟩ = some (.slice A107_4 ((rd_T34 l0 x5_1).f4).length c107_4) := (blk_cell BK108.out 4).trans rfl
                            have hcz20_5 : w10.cell? ⟨gb108, 5, none⟩ = some (.slice A107_5 ((rd_T34 l0 x5_1).f5).length c107_5) := (blk_cell BK108.out 5).trans rfl
                            have hcz20_6 : w10.cell? ⟨gb108, 6, none⟩ = some (.int .u64 ((rd_T34 l0 x5_1).f6)) := (blk_cell BK108.out 6).trans rfl
                            have hcz20_7 : w10.cell? ⟨gb108, 7, none⟩ = some (.int .i64 ((rd_T34 l0 x5_1).f7)) := (blk_cell BK108.out 7).trans rfl
                            have hfz20_0 := blk_frozen BK108.out 0
                            have hfz20_1 := blk_frozen BK108.out 1
                            have hfz20_2 := blk_frozen BK108.out 2
                            have hfz20_3 := blk_frozen BK108.out 3
                            have hfz20_4 := blk_frozen BK108.out 4
                            have hfz20_5 := blk_frozen BK108.out 5
                            have hfz20_6 := blk_frozen BK108.out 6
                            have hfz20_7 := blk_frozen BK108.out 7
                            have hcz21_0 : w10.cell? ⟨gb110, 0, none⟩ = some (.int .i64 ((rd_T34 l1 x5_1).f0)) := (blk_cell BK110.out 0).trans rfl
                            have hcz21_1 : w10.cell? ⟨gb110, 1, none⟩ = some (.int .i64 ((rd_T34 l1 x5_1).f1)) := (blk_cell BK110.out 1).trans rfl
                            have hcz21_2 : w10.cell? ⟨gb110, 2, none⟩ = some (.int .i64 ((rd_T34 l1 x5_1).f2)) := (blk_cell BK110.out 2).trans rfl
                            have hcz21_3 : w10.cell? ⟨gb110, 3, none⟩ = some (.int .i64 ((rd_T34 l1 x5_1).f3)) := (blk_cell BK110.out 3).trans rfl
                            have hcz21_4 : w10.cell? ⟨gb110, 4, none⟩ = some (.slice A109_4 ((rd_T34 l1 x5_1).f4).length c109_4) := (blk_cell BK110.out 4).trans rfl
                            have hcz21_5 : w10.cell? ⟨gb110, 5, none⟩ = some (.slice A109_5 ((rd_T34 l1 x5_1).f5).length c109_5) := (blk_cell BK110.out 5).trans rfl
                            have hcz21_6 : w10.cell? ⟨gb110, 6, none⟩ = some (.int .u64 ((rd_T34 l1 x5_1).f6)) := (blk_cell BK110.out 6).trans rfl
                            have hcz21_7 : w10.cell? ⟨gb110, 7, none⟩ = some (.int .i64 ((rd_T34 l1 x5_1).f7)) := (blk_cell BK110.out 7).trans rfl
                            have hfz21_0 := blk_frozen BK110.out 0
                            have hfz21_1 := blk_frozen BK110.out 1
                            have hfz21_2 := blk_frozen BK110.out 2
                            have hfz21_3 := blk_frozen BK110.out 3
                            have hfz21_4 := blk_frozen BK110.out 4
                            have hfz21_5 := blk_frozen BK110.out 5
                            have hfz21_6 := blk_frozen BK110.out 6
                            have hfz21_7 := blk_frozen BK110.out 7
                            go_wp2
                            repeat (go_quiet (fail); try go_wp2)
                            go_meet
                            case rel => exact ⟨_, (((((rd_T34 l0 x5_1).f5).length : Int) != (((rd_T34 l1 x5_1).f5).length : Int))), (by first | rfl | (refine congrArg Ending.returned (congrArg (Value.int .i64) (?_ : (0 : Int) = _)); decide +kernel) | (simp; done) | (simp [*]; done)), H', ⟨by have := HK1.out; first | omega | exact Nat.le_refl _⟩, ⟨BK108.out⟩, ⟨BK110.out⟩, ⟨by repeat (first | (with_reducible first | exact HB.out | apply below_alloc | apply pw_below_drewN | apply below_drew1) | exact HB.out)⟩⟩
                          · rw [if_neg c18] at H
                            have c18b0 : ((((rd_T34 l0 x5_1).f4).length : Int) == (((rd_T34 l1 x5_1).f4).length : Int)) = false := beq_eq_false_iff_ne.mpr c18
                            have c18b1 : ((((rd_T34 l0 x5_1).f4).length : Int) != (((rd_T34 l1 x5_1).f4).length : Int)) = true := bne_iff_ne.mpr c18
                            have c18b2 : (((rd_T34 l0 x5_1).f4).length == ((rd_T34 l1 x5_1).f4).length) = false := by first | simpa using c18 | (simp at c18 ⊢; omega)
                            have H' := Aside0.mk H
                            clear H
                            have hnb22 := NB108_110.out
                            have hnc22 := NB110_108.out
                            have hcz23_0 : w10.cell? ⟨gb108, 0, none⟩ = some (.int .i64 ((rd_T34 l0 x5_1).f0)) := (blk_cell BK108.out 0).trans rfl
                            have hcz23_1 : w10.cell? ⟨gb108, 1, none⟩ = some (.int .i64 ((rd_T34 l0 x5_1).f1)) := (blk_cell BK108.out 1).trans rfl
                            have hcz23_2 : w10.cell? ⟨gb108, 2, none⟩ = some (.int .i64 ((rd_T34 l0 x5_1).f2)) := (blk_cell BK108.out 2).trans rfl
                            have hcz23_3 : w10.cell? ⟨gb108, 3, none⟩ = some (.int .i64 ((rd_T34 l0 x5_1).f3)) := (blk_cell BK108.out 3).trans rfl
                            have hcz23_4 : w10.cell? ⟨gb108, 4, none⟩ = some (.slice A107_4 ((rd_T34 l0 x5_1).f4).length c107_4) := (blk_cell BK108.out 4).trans rfl
                            have hcz23_5 : w10.cell? ⟨gb108, 5, none⟩ = some (.slice A107_5 ((rd_T34 l0 x5_1).f5).length c107_5) := (blk_cell BK108.out 5).trans rfl
                            have hcz23_6 : w10.cell? ⟨gb108, 6, none⟩ = some (.int .u64 ((rd_T34 l0 x5_1).f6)) := (blk_cell BK108.out 6).trans rfl
                            have hcz23_7 : w10.cell? ⟨gb108, 7, none⟩ = some (.int .i64 ((rd_T34 l0 x5_1).f7)) := (blk_cell BK108.out 7).trans rfl
                            have hfz23_0 := blk_frozen BK108.out 0
                            have hfz23_1 := blk_frozen BK108.out 1
                            have hfz23_2 := blk_frozen BK108.out 2
                            have hfz23_3 := blk_frozen BK108.out 3
                            have hfz23_4 := blk_frozen BK108.out 4
                            have hfz23_5 := blk_frozen BK108.out 5
                            have hfz23_6 := blk_frozen BK108.out 6
                            have hfz23_7 := blk_frozen BK108.out 7
                            have hcz24_0 : w10.cell? ⟨gb110, 0, none⟩ = some (.int .i64 ((rd_T34 l1 x5_1).f0)) := (blk_cell BK110.out 0).trans rfl
                            have hcz24_1 : w10.cell? ⟨gb110, 1, none⟩ = some (.int .i64 ((rd_T34 l1 x5_1).f1)) := (blk_cell BK110.out 1).trans rfl
                            have hcz24_2 : w10.cell? ⟨gb110, 2, none⟩ = some (.int .i64 ((rd_T34 l1 x5_1).f2)) := (blk_cell BK110.out 2).trans rfl
                            have hcz24_3 : w10.cell? ⟨gb110, 3, none⟩ = some (.int .i64 ((rd_T34 l1 x5_1).f3)) := (blk_cell BK110.out 3).trans rfl
                            have hcz24_4 : w10.cell? ⟨gb110, 4, none⟩ = some (.slice A109_4 ((rd_T34 l1 x5_1).f4).length c109_4) := (blk_cell BK110.out 4).trans rfl
                            have hcz24_5 : w10.cell? ⟨gb110, 5, none⟩ = some (.slice A109_5 ((rd_T34 l1 x5_1).f5).length c109_5) := (blk_cell BK110.out 5).trans rfl
                            have hcz24_6 : w10.cell? ⟨gb110, 6, none⟩ = some (.int .u64 ((rd_T34 l1 x5_1).f6)) := (blk_cell BK110.out 6).trans rfl
                            have hcz24_7 : w10.cell? ⟨gb110, 7, none⟩ = some (.int .i64 ((rd_T34 l1 x5_1).f7)) := (blk_cell BK110.out 7).trans rfl
                            have hfz24_0 := blk_frozen BK110.out 0
                            have hfz24_1 := blk_frozen BK110.out 1
                            have hfz24_2 := blk_frozen BK110.out 2
                            have hfz24_3 := blk_frozen BK110.out 3
                            have hfz24_4 := blk_frozen BK110.out 4
                            have hfz24_5 := blk_frozen BK110.out 5
                            have hfz24_6 := blk_frozen BK110.out 6
                            have hfz24_7 := blk_frozen BK110.out 7
                            go_wp2
                            repeat (go_quiet (fail); try go_wp2)
                            go_meet
                            case rel => exact ⟨_, (true), (by first | rfl | (refine congrArg Ending.returned (congrArg (Value.int .i64) (?_ : (0 : Int) = _)); decide +kernel) | (simp; done) | (simp [*]; done)), H', ⟨by have := HK1.out; first | omega | exact Nat.le_refl _⟩, ⟨BK108.out⟩, ⟨BK110.out⟩, ⟨by repeat (first | (with_reducible first | exact HB.out | apply below_alloc | apply pw_below_drewN | apply below_drew1) | exact HB.out)⟩⟩
                        · rw [if_neg c17] at H
                          have c17b0 : (((rd_T34 l0 x5_1).f6) == ((rd_T34 l1 x5_1).f6)) = false := beq_eq_false_iff_ne.mpr c17
                          have c17b1 : (((rd_T34 l0 x5_1).f6) != ((rd_T34 l1 x5_1).f6)) = true := bne_iff_ne.mpr c17
                          have H' := Aside0.mk H
                          clear H
                          have hnb25 := NB108_110.out
                          have hnc25 := NB110_108.out
                          have hcz26_0 : w10.cell? ⟨gb108, 0, none⟩ = some (.int .i64 ((rd_T34 l0 x5_1).f0)) := (blk_cell BK108.out 0).trans rfl
                          have hcz26_1 : w10.cell? ⟨gb108, 1, none⟩ = some (.int .i64 ((rd_T34 l0 x5_1).f1)) := (blk_cell BK108.out 1).trans rfl
                          have hcz26_2 : w10.cell? ⟨gb108, 2, none⟩ = some (.int .i64 ((rd_T34 l0 x5_1).f2)) := (blk_cell BK108.out 2).trans rfl
                          have hcz26_3 : w10.cell? ⟨gb108, 3, none⟩ = some (.int .i64 ((rd_T34 l0 x5_1).f3)) := (blk_cell BK108.out 3).trans rfl
                          have hcz26_4 : w10.cell? ⟨gb108, 4, none⟩ = some (.slice A107_4 ((rd_T34 l0 x5_1).f4).length c107_4) := (blk_cell BK108.out 4).trans rfl
                          have hcz26_5 : w10.cell? ⟨gb108, 5, none⟩ = some (.slice A107_5 ((rd_T34 l0 x5_1).f5).length c107_5) := (blk_cell BK108.out 5).trans rfl
                          have hcz26_6 : w10.cell? ⟨gb108, 6, none⟩ = some (.int .u64 ((rd_T34 l0 x5_1).f6)) := (blk_cell BK108.out 6).trans rfl
                          have hcz26_7 : w10.cell? ⟨gb108, 7, none⟩ = some (.int .i64 ((rd_T34 l0 x5_1).f7)) := (blk_cell BK108.out 7).trans rfl
                          have hfz26_0 := blk_frozen BK108.out 0
                          have hfz26_1 := blk_frozen BK108.out 1
                          have hfz26_2 := blk_frozen BK108.out 2
                          have hfz26_3 := blk_frozen BK108.out 3
                          have hfz26_4 := blk_frozen BK108.out 4
                          have hfz26_5 := blk_frozen BK108.out 5
                          have hfz26_6 := blk_frozen BK108.out 6
                          have hfz26_7 := blk_frozen BK108.out 7
                          have hcz27_0 : w10.cell? ⟨gb110, 0, none⟩ = some (.int .i64 ((rd_T34 l1 x5_1).f0)) := (blk_cell BK110.out 0).trans rfl
                          have hcz27_1 : w10.cell? ⟨gb110, 1, none⟩ = some (.int .i64 ((rd_T34 l1 x5_1).f1)) := (blk_cell BK110.out 1).trans rfl
                          have hcz27_2 : w10.cell? ⟨gb110, 2, none⟩ = some (.int .i64 ((rd_T34 l1 x5_1).f2)) := (blk_cell BK110.out 2).trans rfl
                          have hcz27_3 : w10.cell? ⟨gb110, 3, none⟩ = some (.int .i64 ((rd_T34 l1 x5_1).f3)) := (blk_cell BK110.out 3).trans rfl
                          have hcz27_4 : w10.cell? ⟨gb110, 4, none⟩ = some (.slice A109_4 ((rd_T34 l1 x5_1).f4).length c109_4) := (blk_cell BK110.out 4).trans rfl
                          have hcz27_5 : w10.cell? ⟨gb110, 5, none⟩ = some (.slice A109_5 ((rd_T34 l1 x5_1).f5).length c109_5) := (blk_cell BK110.out 5).trans rfl
                          have hcz27_6 : w10.cell? ⟨gb110, 6, none⟩ = some (.int .u64 ((rd_T34 l1 x5_1).f6)) := (blk_cell BK110.out 6).trans rfl
                          have hcz27_7 : w10.cell? ⟨gb110, 7, none⟩ = some (.int .i64 ((rd_T34 l1 x5_1).f7)) := (blk_cell BK110.out 7).trans rfl
                          have hfz27_0 := blk_frozen BK110.out 0
                          have hfz27_1 := blk_frozen BK110.out 1
                          have hfz27_2 := blk_frozen BK110.out 2
                          have hfz27_3 := blk_frozen BK110.out 3
                          have hfz27_4 := blk_frozen BK110.out 4
                          have hfz27_5 := blk_frozen BK110.out 5
                          have hfz27_6 := blk_frozen BK110.out 6
                          have hfz27_7 := blk_frozen BK110.out 7
                          go_wp2
                          repeat (go_quiet (fail); try go_wp2)
                          go_meet
                          case rel => exact ⟨_, (true), (by first | rfl | (refine congrArg Ending.returned (congrArg (Value.int .i64) (?_ : (0 : Int) = _)); decide +kernel) | (simp; done) | (simp [*]; done)), H', ⟨by have := HK1.out; first | omega | exact Nat.le_refl _⟩, ⟨BK108.out⟩, ⟨BK110.out⟩, ⟨by repeat (first | (with_reducible first | exact HB.out | apply below_alloc | apply pw_below_drewN | apply below_drew1) | exact HB.out)⟩⟩
                      · rw [if_neg c16] at H
                        have c16b0 : (((rd_T34 l0 x5_1).f3) == ((rd_T34 l1 x5_1).f3)) = false := beq_eq_false_iff_ne.mpr c16
                        have c16b1 : (((rd_T34 l0 x5_1).f3) != ((rd_T34 l1 x5_1).f3)) = true := bne_iff_ne.mpr c16
                        have H' := Aside0.mk H
                        clear H
                        have hnb28 := NB108_110.out
                        have hnc28 := NB110_108.out
                        have hcz29_0 : w10.cell? ⟨gb108, 0, none⟩ = some (.int .i64 ((rd_T34 l0 x5_1).f0)) := (blk_cell BK108.out 0).trans rfl
                        have hcz29_1 : w10.cell? ⟨gb108, 1, none⟩ = some (.int .i64 ((rd_T34 l0 x5_1).f1)) := (blk_cell BK108.out 1).trans rfl
                        have hcz29_2 : w10.cell? ⟨gb108, 2, none⟩ = some (.int .i64 ((rd_T34 l0 x5_1).f2)) := (blk_cell BK108.out 2).trans rfl
                        have hcz29_3 : w10.cell? ⟨gb108, 3, none⟩ = some (.int .i64 ((rd_T34 l0 x5_1).f3)) := (blk_cell BK108.out 3).trans rfl
                        have hcz29_4 : w10.cell? ⟨gb108, 4, none⟩ = some (.slice A107_4 ((rd_T34 l0 x5_1).f4).length c107_4) := (blk_cell BK108.out 4).trans rfl
                        have hcz29_5 : w10.cell? ⟨gb108, 5, none⟩ = some (.slice A107_5 ((rd_T34 l0 x5_1).f5).length c107_5) := (blk_cell BK108.out 5).trans rfl
                        have hcz29_6 : w10.cell? ⟨gb108, 6, none⟩ = some (.int .u64 ((rd_T34 l0 x5_1).f6)) := (blk_cell BK108.out 6).trans rfl
                        have hcz29_7 : w10.cell? ⟨gb108, 7, none⟩ = some (.int .i64 ((rd_T34 l0 x5_1).f7)) := (blk_cell BK108.out 7).trans rfl
                        have hfz29_0 := blk_frozen BK108.out 0
                        have hfz29_1 := blk_frozen BK108.out 1
                        have hfz29_2 := blk_frozen BK108.out 2
                        have hfz29_3 := blk_frozen BK108.out 3
                        have hfz29_4 := blk_frozen BK108.out 4
                        have hfz29_5 := blk_frozen BK108.out 5
                        have hfz29_6 := blk_frozen BK108.out 6
                        have hfz29_7 := blk_frozen BK108.out 7
                        have hcz30_0 : w10.cell? ⟨gb110, 0, none⟩ = some (.int .i64 ((rd_T34 l1 x5_1).f0)) := (blk_cell BK110.out 0).trans rfl
                        have hcz30_1 : w10.cell? ⟨gb110, 1, none⟩ = some (.int .i64 ((rd_T34 l1 x5_1).f1)) := (blk_cell BK110.out 1).trans rfl
                        have hcz30_2 : w10.cell? ⟨gb110, 2, none⟩ = some (.int .i64 ((rd_T34 l1 x5_1).f2)) := (blk_cell BK110.out 2).trans rfl
                        have hcz30_3 : w10.cell? ⟨gb110, 3, none⟩ = some (.int .i64 ((rd_T34 l1 x5_1).f3)) := (blk_cell BK110.out 3).trans rfl
                        have hcz30_4 : w10.cell? ⟨gb110, 4, none⟩ = some (.slice A109_4 ((rd_T34 l1 x5_1).f4).length c109_4) := (blk_cell BK110.out 4).trans rfl
                        have hcz30_5 : w10.cell? ⟨gb110, 5, none⟩ = some (.slice A109_5 ((rd_T34 l1 x5_1).f5).length c109_5) := (blk_cell BK110.out 5).trans rfl
                        have hcz30_6 : w10.cell? ⟨gb110, 6, none⟩ = some (.int .u64 ((rd_T34 l1 x5_1).f6)) := (blk_cell BK110.out 6).trans rfl
                        have hcz30_7 : w10.cell? ⟨gb110, 7, none⟩ = some (.int .i64 ((rd_T34 l1 x5_1).f7)) := (blk_cell BK110.out 7).trans rfl
                        have hfz30_0 := blk_frozen BK110.out 0
                        have hfz30_1 := blk_frozen BK110.out 1
                        have hfz30_2 := blk_frozen BK110.out 2
                        have hfz30_3 := blk_frozen BK110.out 3
                        have hfz30_4 := blk_frozen BK110.out 4
                        have hfz30_5 := blk_frozen BK110.out 5
                        have hfz30_6 := blk_frozen BK110.out 6
                        have hfz30_7 := blk_frozen BK110.out 7
                        go_wp2
                        repeat (go_quiet (fail); try go_wp2)
                        go_meet
                        case rel => exact ⟨_, (true), (by first | rfl | (refine congrArg Ending.returned (congrArg (Value.int .i64) (?_ : (0 : Int) = _)); decide +kernel) | (simp; done) | (simp [*]; done)), H', ⟨by have := HK1.out; first | omega | exact Nat.le_refl _⟩, ⟨BK108.out⟩, ⟨BK110.out⟩, ⟨by repeat (first | (with_reducible first | exact HB.out | apply below_alloc | apply pw_below_drewN | apply below_drew1) | exact HB.out)⟩⟩
                    · rw [if_neg c15] at H
                      have c15b0 : (((rd_T34 l0 x5_1).f2) == ((rd_T34 l1 x5_1).f2)) = false := beq_eq_false_iff_ne.mpr c15
                      have c15b1 : (((rd_T34 l0 x5_1).f2) != ((rd_T34 l1 x5_1).f2)) = true := bne_iff_ne.mpr c15
                      have H' := Aside0.mk H
                      clear H
                      have hnb31 := NB108_110.out
                      have hnc31 := NB110_108.out
                      have hcz32_0 : w10.cell? ⟨gb108, 0, none⟩ = some (.int .i64 ((rd_T34 l0 x5_1).f0)) := (blk_cell BK108.out 0).trans rfl
                      have hcz32_1 : w10.cell? ⟨gb108, 1, none⟩ = some (.int .i64 ((rd_T34 l0 x5_1).f1)) := (blk_cell BK108.out 1).trans rfl
                      have hcz32_2 : w10.cell? ⟨gb108, 2, none⟩ = some (.int .i64 ((rd_T34 l0 x5_1).f2)) := (blk_cell BK108.out 2).trans rfl
                      have hcz32_3 : w10.cell? ⟨gb108, 3, none⟩ = some (.int .i64 ((rd_T34 l0 x5_1).f3)) := (blk_cell BK108.out 3).trans rfl
                      have hcz32_4 : w10.cell? ⟨gb108, 4, none⟩ = some (.slice A107_4 ((rd_T34 l0 x5_1).f4).length c107_4) := (blk_cell BK108.out 4).trans rfl
                      have hcz32_5 : w10.cell? ⟨gb108, 5, none⟩ = some (.slice A107_5 ((rd_T34 l0 x5_1).f5).length c107_5) := (blk_cell BK108.out 5).trans rfl
                      have hcz32_6 : w10.cell? ⟨gb108, 6, none⟩ = some (.int .u64 ((rd_T34 l0 x5_1).f6)) := (blk_cell BK108.out 6).trans rfl
                      have hcz32_7 : w10.cell? ⟨gb108, 7, none⟩ = some (.int .i64 ((rd_T34 l0 x5_1).f7)) := (blk_cell BK108.out 7).trans rfl
                      have hfz32_0 := blk_frozen BK108.out 0
                      have hfz32_1 := blk_frozen BK108.out 1
                      have hfz32_2 := blk_frozen BK108.out 2
                      have hfz32_3 := blk_frozen BK108.out 3
                      have hfz32_4 := blk_frozen BK108.out 4
                      have hfz32_5 := blk_frozen BK108.out 5
                      have hfz32_6 := blk_frozen BK108.out 6
                      have hfz32_7 := blk_frozen BK108.out 7
                      have hcz33_0 : w10.cell? ⟨gb110, 0, none⟩ = some (.int .i64 ((rd_T34 l1 x5_1).f0)) := (blk_cell BK110.out 0).trans rfl
                      have hcz33_1 : w10.cell? ⟨gb110, 1, none⟩ = some (.int .i64 ((rd_T34 l1 x5_1).f1)) := (blk_cell BK110.out 1).trans rfl
                      have hcz33_2 : w10.cell? ⟨gb110, 2, none⟩ = some (.int .i64 ((rd_T34 l1 x5_1).f2)) := (blk_cell BK110.out 2).trans rfl
                      have hcz33_3 : w10.cell? ⟨gb110, 3, none⟩ = some (.int .i64 ((rd_T34 l1 x5_1).f3)) := (blk_cell BK110.out 3).trans rfl
                      have hcz33_4 : w10.cell? ⟨gb110, 4, none⟩ = some (.slice A109_4 ((rd_T34 l1 x5_1).f4).length c109_4) := (blk_cell BK110.out 4).trans rfl
                      have hcz33_5 : w10.cell? ⟨gb110, 5, none⟩ = some (.slice A109_5 ((rd_T34 l1 x5_1).f5).length c109_5) := (blk_cell BK110.out 5).trans rfl
                      have hcz33_6 : w10.cell? ⟨gb110, 6, none⟩ = some (.int .u64 ((rd_T34 l1 x5_1).f6)) := (blk_cell BK110.out 6).trans rfl
                      have hcz33_7 : w10.cell? ⟨gb110, 7, none⟩ = some (.int .i64 ((rd_T34 l1 x5_1).f7)) := (blk_cell BK110.out 7).trans rfl
                      have hfz33_0 := blk_frozen BK110.out 0
                      have hfz33_1 := blk_frozen BK110.out 1
                      have hfz33_2 := blk_frozen BK110.out 2
                      have hfz33_3 := blk_frozen BK110.out 3
                      have hfz33_4 := blk_frozen BK110.out 4
                      have hfz33_5 := blk_frozen BK110.out 5
                      have hfz33_6 := blk_frozen BK110.out 6
                      have hfz33_7 := blk_frozen BK110.out 7
                      go_wp2
                      repeat (go_quiet (fail); try go_wp2)
                      go_meet
                      case rel => exact ⟨_, (true), (by first | rfl | (refine congrArg Ending.returned (congrArg (Value.int .i64) (?_ : (0 : Int) = _)); decide +kernel) | (simp; done) | (simp [*]; done)), H', ⟨by have := HK1.out; first | omega | exact Nat.le_refl _⟩, ⟨BK108.out⟩, ⟨BK110.out⟩, ⟨by repeat (first | (with_reducible first | exact HB.out | apply below_alloc | apply pw_below_drewN | apply below_drew1) | exact HB.out)⟩⟩
                  · rw [if_neg c14] at H
                    have c14b0 : (((rd_T34 l0 x5_1).f1) == ((rd_T34 l1 x5_1).f1)) = false := beq_eq_false_iff_ne.mpr c14
                    have c14b1 : (((rd_T34 l0 x5_1).f1) != ((rd_T34 l1 x5_1).f1)) = true := bne_iff_ne.mpr c14
                    have H' := Aside0.mk H
                    clear H
                    have hnb34 := NB108_110.out
                    have hnc34 := NB110_108.out
                    have hcz35_0 : w10.cell? ⟨gb108, 0, none⟩ = some (.int .i64 ((rd_T34 l0 x5_1).f0)) := (blk_cell BK108.out 0).trans rfl
                    have hcz35_1 : w10.cell? ⟨gb108, 1, none⟩ = some (.int .i64 ((rd_T34 l0 x5_1).f1)) := (blk_cell BK108.out 1).trans rfl
                    have hcz35_2 : w10.cell? ⟨gb108, 2, none⟩ = some (.int .i64 ((rd_T34 l0 x5_1).f2)) := (blk_cell BK108.out 2).trans rfl
                    have hcz35_3 : w10.cell? ⟨gb108, 3, none⟩ = some (.int .i64 ((rd_T34 l0 x5_1).f3)) := (blk_cell BK108.out 3).trans rfl
                    have hcz35_4 : w10.cell? ⟨gb108, 4, none⟩ = some (.slice A107_4 ((rd_T34 l0 x5_1).f4).length c107_4) := (blk_cell BK108.out 4).trans rfl
                    have hcz35_5 : w10.cell? ⟨gb108, 5, none⟩ = some (.slice A107_5 ((rd_T34 l0 x5_1).f5).length c107_5) := (blk_cell BK108.out 5).trans rfl
                    have hcz35_6 : w10.cell? ⟨gb108, 6, none⟩ = some (.int .u64 ((rd_T34 l0 x5_1).f6)) := (blk_cell BK108.out 6).trans rfl
                    have hcz35_7 : w10.cell? ⟨gb108, 7, none⟩ = some (.int .i64 ((rd_T34 l0 x5_1).f7)) := (blk_cell BK108.out 7).trans rfl
                    have hfz35_0 := blk_frozen BK108.out 0
                    have hfz35_1 := blk_frozen BK108.out 1
                    have hfz35_2 := blk_frozen BK108.out 2
                    have hfz35_3 := blk_frozen BK108.out 3
                    have hfz35_4 := blk_frozen BK108.out 4
                    have hfz35_5 := blk_frozen BK108.out 5
                    have hfz35_6 := blk_frozen BK108.out 6
                    have hfz35_7 := blk_frozen BK108.out 7
                    have hcz36_0 : w10.cell? ⟨gb110, 0, none⟩ = some (.int .i64 ((rd_T34 l1 x5_1).f0)) := (blk_cell BK110.out 0).trans rfl
                    have hcz36_1 : w10.cell? ⟨gb110, 1, none⟩ = some (.int .i64 ((rd_T34 l1 x5_1).f1)) := (blk_cell BK110.out 1).trans rfl
                    have hcz36_2 : w10.cell? ⟨gb110, 2, none⟩ = some (.int .i64 ((rd_T34 l1 x5_1).f2)) := (blk_cell BK110.out 2).trans rfl
                    have hcz36_3 : w10.cell? ⟨gb110, 3, none⟩ = some (.int .i64 ((rd_T34 l1 x5_1).f3)) := (blk_cell BK110.out 3).trans rfl
                    have hcz36_4 : w10.cell? ⟨gb110, 4, none⟩ = some (.slice A109_4 ((rd_T34 l1 x5_1).f4).length c109_4) := (blk_cell BK110.out 4).trans rfl
                    have hcz36_5 : w10.cell? ⟨gb110, 5, none⟩ = some (.slice A109_5 ((rd_T34 l1 x5_1).f5).length c109_5) := (blk_cell BK110.out 5).trans rfl
                    have hcz36_6 : w10.cell? ⟨gb110, 6, none⟩ = some (.int .u64 ((rd_T34 l1 x5_1).f6)) := (blk_cell BK110.out 6).trans rfl
                    have hcz36_7 : w10.cell? ⟨gb110, 7, none⟩ = some (.int .i64 ((rd_T34 l1 x5_1).f7)) := (blk_cell BK110.out 7).trans rfl
                    have hfz36_0 := blk_frozen BK110.out 0
                    have hfz36_1 := blk_frozen BK110.out 1
                    have hfz36_2 := blk_frozen BK110.out 2
                    have hfz36_3 := blk_frozen BK110.out 3
                    have hfz36_4 := blk_frozen BK110.out 4
                    have hfz36_5 := blk_frozen BK110.out 5
                    have hfz36_6 := blk_frozen BK110.out 6
                    have hfz36_7 := blk_frozen BK110.out 7
                    go_wp2
                    repeat (go_quiet (fail); try go_wp2)
                    go_meet
                    case rel => exact ⟨_, (true), (by first | rfl | (refine congrArg Ending.returned (congrArg (Value.int .i64) (?_ : (0 : Int) = _)); decide +kernel) | (simp; done) | (simp [*]; done)), H', ⟨by have := HK1.out; first | omega | exact Nat.le_refl _⟩, ⟨BK108.out⟩, ⟨BK110.out⟩, ⟨by repeat (first | (with_reducible first | exact HB.out | apply below_alloc | apply pw_below_drewN | apply below_drew1) | exact HB.out)⟩⟩
                · rw [if_neg c13] at H
                  have c13b0 : (((rd_T34 l0 x5_1).f0) == ((rd_T34 l1 x5_1).f0)) = false := beq_eq_false_iff_ne.mpr c13
                  have c13b1 : (((rd_T34 l0 x5_1).f0) != ((rd_T34 l1 x5_1).f0)) = true := bne_iff_ne.mpr c13
                  (first | rw [c13b0] | (simp only [i64_w, i32_w]; rw [c13b0]) | skip)
                  have H' := Aside0.mk H
                  clear H
                  have hnb37 := NB108_110.out
                  have hnc37 := NB110_108.out
                  have hcz38_0 : w10.cell? ⟨gb108, 0, none⟩ = some (.int .i64 ((rd_T34 l0 x5_1).f0)) := (blk_cell BK108.out 0).trans rfl
                  have hcz38_1 : w10.cell? ⟨gb108, 1, none⟩ = some (.int .i64 ((rd_T34 l0 x5_1).f1)) := (blk_cell BK108.out 1).trans rfl
                  have hcz38_2 : w10.cell? ⟨gb108, 2, none⟩ = some (.int .i64 ((rd_T34 l0 x5_1).f2)) := (blk_cell BK108.out 2).trans rfl
                  have hcz38_3 : w10.cell? ⟨gb108, 3, none⟩ = some (.int .i64 ((rd_T34 l0 x5_1).f3)) := (blk_cell BK108.out 3).trans rfl
                  have hcz38_4 : w10.cell? ⟨gb108, 4, none⟩ = some (.slice A107_4 ((rd_T34 l0 x5_1).f4).length c107_4) := (blk_cell BK108.out 4).trans rfl
                  have hcz38_5 : w10.cell? ⟨gb108, 5, none⟩ = some (.slice A107_5 ((rd_T34 l0 x5_1).f5).length c107_5) := (blk_cell BK108.out 5).trans rfl
                  have hcz38_6 : w10.cell? ⟨gb108, 6, none⟩ = some (.int .u64 ((rd_T34 l0 x5_1).f6)) := (blk_cell BK108.out 6).trans rfl
                  have hcz38_7 : w10.cell? ⟨gb108, 7, none⟩ = some (.int .i64 ((rd_T34 l0 x5_1).f7)) := (blk_cell BK108.out 7).trans rfl
                  have hfz38_0 := blk_frozen BK108.out 0
                  have hfz38_1 := blk_frozen BK108.out 1
                  have hfz38_2 := blk_frozen BK108.out 2
                  have hfz38_3 := blk_frozen BK108.out 3
                  have hfz38_4 := blk_frozen BK108.out 4
                  have hfz38_5 := blk_frozen BK108.out 5
                  have hfz38_6 := blk_frozen BK108.out 6
                  have hfz38_7 := blk_frozen BK108.out 7
                  have hcz39_0 : w10.cell? ⟨gb110, 0, none⟩ = some (.int .i64 ((rd_T34 l1 x5_1).f0)) := (blk_cell BK110.out 0).trans rfl
                  have hcz39_1 : w10.cell? ⟨gb110, 1, none⟩ = some (.int .i64 ((rd_T34 l1 x5_1).f1)) := (blk_cell BK110.out 1).trans rfl
                  have hcz39_2 : w10.cell? ⟨gb110, 2, none⟩ = some (.int .i64 ((rd_T34 l1 x5_1).f2)) := (blk_cell BK110.out 2).trans rfl
                  have hcz39_3 : w10.cell? ⟨gb110, 3, none⟩ = some (.int .i64 ((rd_T34 l1 x5_1).f3)) := (blk_cell BK110.out 3).trans rfl
                  have hcz39_4 : w10.cell? ⟨gb110, 4, none⟩ = some (.slice A109_4 ((rd_T34 l1 x5_1).f4).length c109_4) := (blk_cell BK110.out 4).trans rfl
                  have hcz39_5 : w10.cell? ⟨gb110, 5, none⟩ = some (.slice A109_5 ((rd_T34 l1 x5_1).f5).length c109_5) := (blk_cell BK110.out 5).trans rfl
                  have hcz39_6 : w10.cell? ⟨gb110, 6, none⟩ = some (.int .u64 ((rd_T34 l1 x5_1).f6)) := (blk_cell BK110.out 6).trans rfl
                  have hcz39_7 : w10.cell? ⟨gb110, 7, none⟩ = some (.int .i64 ((rd_T34 l1 x5_1).f7)) := (blk_cell BK110.out 7).trans rfl
                  have hfz39_0 := blk_frozen BK110.out 0
                  have hfz39_1 := blk_frozen BK110.out 1
                  have hfz39_2 := blk_frozen BK110.out 2
                  have hfz39_3 := blk_frozen BK110.out 3
                  have hfz39_4 := blk_frozen BK110.out 4
                  have hfz39_5 := blk_frozen BK110.out 5
                  have hfz39_6 := blk_frozen BK110.out 6
                  have hfz39_7 := blk_frozen BK110.out 7
                  go_wp2
                  repeat (go_quiet (fail); try go_wp2)
                  go_meet
                  case rel => exact ⟨_, (true), (by first | rfl | (refine congrArg Ending.returned (congrArg (Value.int .i64) (?_ : (0 : Int) = _)); decide +kernel) | (simp; done) | (simp [*]; done)), H', ⟨by have := HK1.out; first | omega | exact Nat.le_refl _⟩, ⟨BK108.out⟩, ⟨BK110.out⟩, ⟨by repeat (first | (with_reducible first | exact HB.out | apply below_alloc | apply pw_below_drewN | apply below_drew1) | exact HB.out)⟩⟩
              case rest =>
                clear HC7
                try clear c1
                try clear p1
                try clear q1
                try clear hx1
                try clear c2
                try clear p2
                try clear c3
                try clear c3b0
                try clear c3b1
                try clear c3b2
                try clear c4
                try clear c4b0
                try clear c5
                try clear c5b0
                try clear c6
                try clear c6b0
                try clear c10
                try clear p10
                try clear q10
                try clear hx10
                try clear c11
                try clear c13
                try clear c13b0
                try clear c13b1
                try clear c14
                try clear c14b0
                try clear c14b1
                try clear c15
                try clear c15b0
                try clear c15b1
                try clear c16
                try clear c16b0
                try clear c16b1
                try clear c17
                try clear c17b0
                try clear c17b1
                try clear c18
                try clear c18b0
                try clear c18b1
                try clear c18b2
                try clear c19
                try clear c22
                try clear c25
                try clear c28
                try clear c31
                try clear c34
                try clear c37
                try clear hcz12_0
                try clear hcz12_1
                try clear hcz12_2
                try clear hcz12_3
                try clear hcz12_4
                try clear hcz12_5
                try clear hcz12_6
                try clear hcz12_7
                try clear hcz20_0
                try clear hcz20_1
                try clear hcz20_2
                try clear hcz20_3
                try clear hcz20_4
                try clear hcz20_5
                try clear hcz20_6
                try clear hcz20_7
                try clear hcz21_0
                try clear hcz21_1
                try clear hcz21_2
                try clear hcz21_3
                try clear hcz21_4
                try clear hcz21_5
                try clear hcz21_6
                try clear hcz21_7
                try clear hcz23_0
                try clear hcz23_1
                try clear hcz23_2
                try clear hcz23_3
                try clear hcz23_4
                try clear hcz23_5
                try clear hcz23_6
                try clear hcz23_7
                try clear hcz24_0
                try clear hcz24_1
                try clear hcz24_2
                try clear hcz24_3
                try clear hcz24_4
                try clear hcz24_5
                try clear hcz24_6
                try clear hcz24_7
                try clear hcz26_0
                try clear hcz26_1
                try clear hcz26_2
                try clear hcz26_3
                try clear hcz26_4
                try clear hcz26_5
                try clear hcz26_6
                try clear hcz26_7
                try clear hcz27_0
                try clear hcz27_1
                try clear hcz27_2
                try clear hcz27_3
                try clear hcz27_4
                try clear hcz27_5
                try clear hcz27_6
                try clear hcz27_7
                try clear hcz29_0
                try clear hcz29_1
                try clear hcz29_2
                try clear hcz29_3
                try clear hcz29_4
                try clear hcz29_5
                try clear hcz29_6
                try clear hcz29_7
                try clear hcz30_0
                try clear hcz30_1
                try clear hcz30_2
                try clear hcz30_3
                try clear hcz30_4
                try clear hcz30_5
                try clear hcz30_6
                try clear hcz30_7
                try clear hcz32_0
                try clear hcz32_1
                try clear hcz32_2
                try clear hcz32_3
                try clear hcz32_4
                try clear hcz32_5
                try clear hcz32_6
                try clear hcz32_7
                try clear hcz33_0
                try clear hcz33_1
                try clear hcz33_2
                try clear hcz33_3
                try clear hcz33_4
                try clear hcz33_5
                try clear hcz33_6
                try clear hcz33_7
                try clear hcz35_0
                try clear hcz35_1
                try clear hcz35_2
                try clear hcz35_3
                try clear hcz35_4
                try clear hcz35_5
                try clear hcz35_6
                try clear hcz35_7
                try clear hcz36_0
                try clear hcz36_1
                try clear hcz36_2
                try clear hcz36_3
                try clear hcz36_4
                try clear hcz36_5
                try clear hcz36_6
                try clear hcz36_7
                try clear hcz38_0
                try clear hcz38_1
                try clear hcz38_2
                try clear hcz38_3
                try clear hcz38_4
                try clear hcz38_5
                try clear hcz38_6
                try clear hcz38_7
                try clear hcz39_0
                try clear hcz39_1
                try clear hcz39_2
                try clear hcz39_3
                try clear hcz39_4
                try clear hcz39_5
                try clear hcz39_6
                try clear hcz39_7
                try clear hcz9_0
                try clear hcz9_1
                try clear hcz9_2
                try clear hcz9_3
                try clear hcz9_4
                try clear hcz9_5
                try clear hcz9_6
                try clear hcz9_7
                try clear hfz12_0
                try clear hfz12_1
                try clear hfz12_2
                try clear hfz12_3
                try clear hfz12_4
                try clear hfz12_5
                try clear hfz12_6
                try clear hfz12_7
                try clear hfz20_0
                try clear hfz20_1
                try clear hfz20_2
                try clear hfz20_3
                try clear hfz20_4
                try clear hfz20_5
                try clear hfz20_6
                try clear hfz20_7
                try clear hfz21_0
                try clear hfz21_1
                try clear hfz21_2
                try clear hfz21_3
                try clear hfz21_4
                try clear hfz21_5
                try clear hfz21_6
                try clear hfz21_7
                try clear hfz23_0
                try clear hfz23_1
                try clear hfz23_2
                try clear hfz23_3
                try clear hfz23_4
                try clear hfz23_5
                try clear hfz23_6
                try clear hfz23_7
                try clear hfz24_0
                try clear hfz24_1
                try clear hfz24_2
                try clear hfz24_3
                try clear hfz24_4
                try clear hfz24_5
                try clear hfz24_6
                try clear hfz24_7
                try clear hfz26_0
                try clear hfz26_1
                try clear hfz26_2
                try clear hfz26_3
                try clear hfz26_4
                try clear hfz26_5
                try clear hfz26_6
                try clear hfz26_7
                try clear hfz27_0
                try clear hfz27_1
                try clear hfz27_2
                try clear hfz27_3
                try clear hfz27_4
                try clear hfz27_5
                try clear hfz27_6
                try clear hfz27_7
                try clear hfz29_0
                try clear hfz29_1
                try clear hfz29_2
                try clear hfz29_3
                try clear hfz29_4
                try clear hfz29_5
                try clear hfz29_6
                try clear hfz29_7
                try clear hfz30_0
                try clear hfz30_1
                try clear hfz30_2
                try clear hfz30_3
                try clear hfz30_4
                try clear hfz30_5
                try clear hfz30_6
                try clear hfz30_7
                try clear hfz32_0
                try clear hfz32_1
                try clear hfz32_2
                try clear hfz32_3
                try clear hfz32_4
                try clear hfz32_5
                try clear hfz32_6
                try clear hfz32_7
                try clear hfz33_0
                try clear hfz33_1
                try clear hfz33_2
                try clear hfz33_3
                try clear hfz33_4
                try clear hfz33_5
                try clear hfz33_6
                try clear hfz33_7
                try clear hfz35_0
                try clear hfz35_1
                try clear hfz35_2
                try clear hfz35_3
                try clear hfz35_4
                try clear hfz35_5
                try clear hfz35_6
                try clear hfz35_7
                try clear hfz36_0
                try clear hfz36_1
                try clear hfz36_2
                try clear hfz36_3
                try clear hfz36_4
                try clear hfz36_5
                try clear hfz36_6
                try clear hfz36_7
                try clear hfz38_0
                try clear hfz38_1
                try clear hfz38_2
                try clear hfz38_3
                try clear hfz38_4
                try clear hfz38_5
                try clear hfz38_6
                try clear hfz38_7
                try clear hfz39_0
                try clear hfz39_1
                try clear hfz39_2
                try clear hfz39_3
                try clear hfz39_4
                try clear hfz39_5
                try clear hfz39_6
                try clear hfz39_7
                try clear hfz9_0
                try clear hfz9_1
                try clear hfz9_2
                try clear hfz9_3
                try clear hfz9_4
                try clear hfz9_5
                try clear hfz9_6
                try clear hfz9_7
                try clear hx107_0
                try clear hx107_1
                try clear hx107_2
                try clear hx107_3
                try clear hx107_4
                try clear hx107_5
                try clear hx107_6
                try clear hx107_7
                try clear hx109_0
                try clear hx109_1
                try clear hx109_2
                try clear hx109_3
                try clear hx109_4
                try clear hx109_5
                try clear hx109_6
                try clear hx109_7
                try clear p107
                try clear p109
                try clear p2
                try clear q107
                try clear q109
                obtain ⟨kq, x79_6, rfl, HA, HJ6, BK108, BK110, HB⟩ := hcut
                cases kq with
                | zero => exact absurd HA.out (by simp [spec_SameTree.j1])
                | succ kj6 =>
                  have H := HA.out
                  clear HA
                  simp only [spec_SameTree.j1] at H
                  by_cases c40 : x79_6 = true
                  · subst c40
                    have H1 : (some false) = some r := by rw [if_pos rfl] at H; exact H
                    clear H
                    have H := H1
                    clear H1
                    obtain rfl := Option.some.inj H
                    go_wp2
                    repeat (go_quiet (fail); try go_wp2)
                    go_ret
                    exact ⟨by first | rfl | (refine congrArg Ending.returned (congrArg (Value.int .i64) (?_ : (0 : Int) = _)); decide +kernel) | (simp [errW_none, errW_some] <;> rfl) | (simp [*, errW_none, errW_some] <;> rfl), by repeat (first | (with_reducible first | exact HB.out | apply below_alloc | apply pw_below_drewN | apply below_drew1 | refine below_set ?_ GE108.out | refine below_set ?_ GE110.out) | exact HB.out)⟩
                  · replace c40 := Bool.eq_false_iff.mpr c40
                    subst c40
                    have H1 : (spec_SameTree.l1 kj6 l0 l1 x5_1 0 ((rd_T34 l0 x5_1).f0) ((rd_T34 l0 x5_1).f1) ((rd_T34 l0 x5_1).f2) ((rd_T34 l0 x5_1).f3) ((rd_T34 l0 x5_1).f4) ((rd_T34 l0 x5_1).f5) ((rd_T34 l0 x5_1).f6) ((rd_T34 l0 x5_1).f7) ((rd_T34 l1 x5_1).f0) ((rd_T34 l1 x5_1).f1) ((rd_T34 l1 x5_1).f2) ((rd_T34 l1 x5_1).f3) ((rd_T34 l1 x5_1).f4) ((rd_T34 l1 x5_1).f5) ((rd_T34 l1 x5_1).f6) ((rd_T34 l1 x5_1).f7)) = some r := by rw [if_neg (show ¬ (false = true) by decide)] at H; exact H
                    clear H
                    have H := H1
                    clear H1
                    have H' := Aside0.mk H
                    clear H
                    go_wp2
                    repeat (go_quiet (fail); try go_wp2)
                    go_loopg [8] kj6 (fun kq v8 w' => ∃ (x8_3 : Int), v8 = .int .i64 x8_3 ∧ Aside0 (spec_SameTree.l1 kq l0 l1 x5_1 x8_3 ((rd_T34 l0 x5_1).f0) ((rd_T34 l0 x5_1).f1) ((rd_T34 l0 x5_1).f2) ((rd_T34 l0 x5_1).f3) ((rd_T34 l0 x5_1).f4) ((rd_T34 l0 x5_1).f5) ((rd_T34 l0 x5_1).f6) ((rd_T34 l0 x5_1).f7) ((rd_T34 l1 x5_1).f0) ((rd_T34 l1 x5_1).f1) ((rd_T34 l1 x5_1).f2) ((rd_T34 l1 x5_1).f3) ((rd_T34 l1 x5_1).f4) ((rd_T34 l1 x5_1).f5) ((rd_T34 l1 x5_1).f6) ((rd_T34 l1 x5_1).f7) = some r) ∧ Aside0 (kq ≤ kj6) ∧ Aside0 (w'.heap[gb108]? = some (.cells #[.int .i64 ((rd_T34 l0 x5_1).f0), .int .i64 ((rd_T34 l0 x5_1).f1), .int .i64 ((rd_T34 l0 x5_1).f2), .int .i64 ((rd_T34 l0 x5_1).f3), (.slice A107_4 ((rd_T34 l0 x5_1).f4).length c107_4), (.slice A107_5 ((rd_T34 l0 x5_1).f5).length c107_5), .int .u64 ((rd_T34 l0 x5_1).f6), .int .i64 ((rd_T34 l0 x5_1).f7)] 34 (0, 0))) ∧ Aside0 (w'.heap[gb110]? = some (.cells #[.int .i64 ((rd_T34 l1 x5_1).f0), .int .i64 ((rd_T34 l1 x5_1).f1), .int .i64 ((rd_T34 l1 x5_1).f2), .int .i64 ((rd_T34 l1 x5_1).f3), (.slice A109_4 ((rd_T34 l1 x5_1).f4).length c109_4), (.slice A109_5 ((rd_T34 l1 x5_1).f5).length c109_5), .int .u64 ((rd_T34 l1 x5_1).f6), .int .i64 ((rd_T34 l1 x5_1).f7)] 34 (0, 0))) ∧ Aside0 (Below w.heap.size w w'))
                    case atStart => exact ⟨(0), (by first | rfl | (refine congrArg Ending.returned (congrArg (Value.int .i64) (?_ : (0 : Int) = _)); decide +kernel) | (simp; done) | (simp [*]; done)), H', ⟨Nat.le_refl _⟩, ⟨by (with_reducible repeat (first | refine blk_drewN ?_ _ | refine blk_drew ?_ | refine blk_alloc ?_ _)); exact BK108.out⟩, ⟨by (with_reducible repeat (first | refine blk_drewN ?_ _ | refine blk_drew ?_ | refine blk_alloc ?_ _)); exact BK110.out⟩, ⟨by repeat (first | (with_reducible first | exact HB.out | apply below_alloc | apply pw_below_drewN | apply below_drew1 | refine below_set ?_ GE108.out | refine below_set ?_ GE110.out) | exact HB.out)⟩⟩
                    case round =>
                      clear H'
                      try clear c1
                      try clear p1
                      try clear q1
                      try clear hx1
                      try clear c2
                      try clear p2
                      try clear c3
                      try clear c3b0
                      try clear c3b1
                      try clear c3b2
                      try clear c4
                      try clear c4b0
                      try clear c5
                      try clear c5b0
                      try clear c6
                      try clear c6b0
                      try clear c10
                      try clear p10
                      try clear q10
                      try clear hx10
                      try clear c11
                      try clear c13
                      try clear c13b0
                      try clear c13b1
                      try clear c14
                      try clear c14b0
                      try clear c14b1
                      try clear c15
                      try clear c15b0
                      try clear c15b1
                      try clear c16
                      try clear c16b0
                      try clear c16b1
                      try clear c17
                      try clear c17b0
                      try clear c17b1
                      try clear c18
                      try clear c18b0
                      try clear c18b1
                      try clear c18b2
                      try clear c19
                      try clear c22
                      try clear c25
                      try clear c28
                      try clear c31
                      try clear c34
                      try clear c37
                      try clear c40
                      try clear hcz12_0
                      try clear hcz12_1
                      try clear hcz12_2
                      try clear hcz12_3
                      try clear hcz12_4
                      try clear hcz12_5
                      try clear hcz12_6
                      try clear hcz12_7
                      try clear hcz20_0
                      try clear hcz20_1
                      try clear hcz20_2
                      try clear hcz20_3
                      try clear hcz20_4
                      try clear hcz20_5
                      try clear hcz20_6
                      try clear hcz20_7
                      try clear hcz21_0
                      try clear hcz21_1
                      try clear hcz21_2
                      try clear hcz21_3
                      try clear hcz21_4
                      try clear hcz21_5
                      try clear hcz21_6
                      try clear hcz21_7
                      try clear hcz23_0
                      try clear hcz23_1
                      try clear hcz23_2
                      try clear hcz23_3
                      try clear hcz23_4
                      try clear hcz23_5
                      try clear hcz23_6
                      try clear hcz23_7
                      try clear hcz24_0
                      try clear hcz24_1
                      try clear hcz24_2
                      try clear hcz24_3
                      try clear hcz24_4
                      try clear hcz24_5
                      try clear hcz24_6
                      try clear hcz24_7
                      try clear hcz26_0
                      try clear hcz26_1
                      try clear hcz26_2
                      try clear hcz26_3
                      try clear hcz26_4
                      try clear hcz26_5
                      try clear hcz26_6
                      try clear hcz26_7
                      try clear hcz27_0
                      try clear hcz27_1
                      try clear hcz27_2
                      try clear hcz27_3
                      try clear hcz27_4
                      try clear hcz27_5
                      try clear hcz27_6
                      try clear hcz27_7
                      try clear hcz29_0
                      try clear hcz29_1
                      try clear hcz29_2
                      try clear hcz29_3
                      try clear hcz29_4
                      try clear hcz29_5
                      try clear hcz29_6
                      try clear hcz29_7
                      try clear hcz30_0
                      try clear hcz30_1
                      try clear hcz30_2
                      try clear hcz30_3
                      try clear hcz30_4
                      try clear hcz30_5
                      try clear hcz30_6
                      try clear hcz30_7
                      try clear hcz32_0
                      try clear hcz32_1
                      try clear hcz32_2
                      try clear hcz32_3
                      try clear hcz32_4
                      try clear hcz32_5
                      try clear hcz32_6
                      try clear hcz32_7
                      try clear hcz33_0
                      try clear hcz33_1
                      try clear hcz33_2
                      try clear hcz33_3
                      try clear hcz33_4
                      try clear hcz33_5
                      try clear hcz33_6
                      try clear hcz33_7
                      try clear hcz35_0
                      try clear hcz35_1
                      try clear hcz35_2
                      try clear hcz35_3
                      try clear hcz35_4
                      try clear hcz35_5
                      try clear hcz35_6
                      try clear hcz35_7
                      try clear hcz36_0
                      try clear hcz36_1
                      try clear hcz36_2
                      try clear hcz36_3
                      try clear hcz36_4
                      try clear hcz36_5
                      try clear hcz36_6
                      try clear hcz36_7
                      try clear hcz38_0
                      try clear hcz38_1
                      try clear hcz38_2
                      try clear hcz38_3
                      try clear hcz38_4
                      try clear hcz38_5
                      try clear hcz38_6
                      try clear hcz38_7
                      try clear hcz39_0
                      try clear hcz39_1
                      try clear hcz39_2
                      try clear hcz39_3
                      try clear hcz39_4
                      try clear hcz39_5
                      try clear hcz39_6
                      try clear hcz39_7
                      try clear hcz9_0
                      try clear hcz9_1
                      try clear hcz9_2
                      try clear hcz9_3
                      try clear hcz9_4
                      try clear hcz9_5
                      try clear hcz9_6
                      try clear hcz9_7
                      try clear hfz12_0
                      try clear hfz12_1
                      try clear hfz12_2
                      try clear hfz12_3
                      try clear hfz12_4
                      try clear hfz12_5
                      try clear hfz12_6
                      try clear hfz12_7
                      try clear hfz20_0
                      try clear hfz20_1
                      try clear hfz20_2
                      try clear hfz20_3
                      try clear hfz20_4
                      try clear hfz20_5
                      try clear hfz20_6
                      try clear hfz20_7
                      try clear hfz21_0
                      try clear hfz21_1
                      try clear hfz21_2
                      try clear hfz21_3
                      try clear hfz21_4
                      try clear hfz21_5
                      try clear hfz21_6
                      try clear hfz21_7
                      try clear hfz23_0
                      try clear hfz23_1
                      try clear hfz23_2
                      try clear hfz23_3
                      try clear hfz23_4
                      try clear hfz23_5
                      try clear hfz23_6
                      try clear hfz23_7
                      try clear hfz24_0
                      try clear hfz24_1
                      try clear hfz24_2
                      try clear hfz24_3
                      try clear hfz24_4
                      try clear hfz24_5
                      try clear hfz24_6
                      try clear hfz24_7
                      try clear hfz26_0
                      try clear hfz26_1
                      try clear hfz26_2
                      try clear hfz26_3
                      try clear hfz26_4
                      try clear hfz26_5
                      try clear hfz26_6
                      try clear hfz26_7
                      try clear hfz27_0
                      try clear hfz27_1
                      try clear hfz27_2
                      try clear hfz27_3
                      try clear hfz27_4
                      try clear hfz27_5
                      try clear hfz27_6
                      try clear hfz27_7
                      try clear hfz29_0
                      try clear hfz29_1
                      try clear hfz29_2
                      try clear hfz29_3
                      try clear hfz29_4
                      try clear hfz29_5
                      try clear hfz29_6
                      try clear hfz29_7
                      try clear hfz30_0
                      try clear hfz30_1
                      try clear hfz30_2
                      try clear hfz30_3
                      try clear hfz30_4
                      try clear hfz30_5
                      try clear hfz30_6
                      try clear hfz30_7
                      try clear hfz32_0
                      try clear hfz32_1
                      try clear hfz32_2
                      try clear hfz32_3
                      try clear hfz32_4
                      try clear hfz32_5
                      try clear hfz32_6
                      try clear hfz32_7
                      try clear hfz33_0
                      try clear hfz33_1
                      try clear hfz33_2
                      try clear hfz33_3
                      try clear hfz33_4
                      try clear hfz33_5
                      try clear hfz33_6
                      try clear hfz33_7
                      try clear hfz35_0
                      try clear hfz35_1
                      try clear hfz35_2
                      try clear hfz35_3
                      try clear hfz35_4
                      try clear hfz35_5
                      try clear hfz35_6
                      try clear hfz35_7
                      try clear hfz36_0
                      try clear hfz36_1
                      try clear hfz36_2
                      try clear hfz36_3
                      try clear hfz36_4
                      try clear hfz36_5
                      try clear hfz36_6
                      try clear hfz36_7
                      try clear hfz38_0
                      try clear hfz38_1
                      try clear hfz38_2
                      try clear hfz38_3
                      try clear hfz38_4
                      try clear hfz38_5
                      try clear hfz38_6
                      try clear hfz38_7
                      try clear hfz39_0
                      try clear hfz39_1
                      try clear hfz39_2
                      try clear hfz39_3
                      try clear hfz39_4
                      try clear hfz39_5
                      try clear hfz39_6
                      try clear hfz39_7
                      try clear hfz9_0
                      try clear hfz9_1
                      try clear hfz9_2
                      try clear hfz9_3
                      try clear hfz9_4
                      try clear hfz9_5
                      try clear hfz9_6
                      try clear hfz9_7
                      try clear hx107_0
                      try clear hx107_1
                      try clear hx107_2
                      try clear hx107_3
                      try clear hx107_4
                      try clear hx107_5
                      try clear hx107_6
                      try clear hx107_7
                      try clear hx109_0
                      try clear hx109_1
                      try clear hx109_2
                      try clear hx109_3
                      try clear hx109_4
                      try clear hx109_5
                      try clear hx109_6
                      try clear hx109_7
                      try clear p1
                      try clear p10
                      try clear p107
                      try clear p109
                      try clear p2
                      try clear q1
                      try clear q10
                      try clear q107
                      try clear q109
                      obtain ⟨x8_3, rfl, HA, HK3, BK108, BK110, HB⟩ := hrel
                      cases gk with
                      | zero => exact absurd HA.out (by simp [spec_SameTree.l1])
                      | succ k3 =>
                        have H := HA.out
                        clear HA
                        simp only [spec_SameTree.l1] at H
                        by_cases c41 : x8_3 < (((rd_T34 l0 x5_1).f4).length : Int)
                        · rw [if_pos c41] at H
                          have c41b0 : decide (x8_3 < (((rd_T34 l0 x5_1).f4).length : Int)) = true := decide_eq_true c41
                          clear c41
                          by_cases c42 : 0 ≤ x8_3
                          · rw [if_pos c42] at H
                            have c42b0 : decide (0 ≤ x8_3) = true := decide_eq_true c42
                            clear c42
                            by_cases c43 : x8_3 < (((rd_T34 l1 x5_1).f4).length : Int)
                            · rw [if_pos c43] at H
                              have c43b0 : decide (x8_3 < (((rd_T34 l1 x5_1).f4).length : Int)) = true := decide_eq_true c43
                              clear c43
                              by_cases c44 : (rd ((rd_T34 l0 x5_1).f4) x8_3) = (rd ((rd_T34 l1 x5_1).f4) x8_3)
                              · rw [if_pos c44] at H
                                have c44b0 : ((rd ((rd_T34 l0 x5_1).f4) x8_3) == (rd ((rd_T34 l1 x5_1).f4) x8_3)) = true := beq_iff_eq.mpr c44
                                have c44b1 : ((rd ((rd_T34 l0 x5_1).f4) x8_3) != (rd ((rd_T34 l1 x5_1).f4) x8_3)) = false := bne_eq_false_iff_eq.mpr c44
                                clear c44
                                have H' := Aside0.mk H
                                clear H
                                have hnb45 := NB108_110.out
                                have hnc45 := NB110_108.out
                                have hcz46_0 : wr.cell? ⟨gb108, 0, none⟩ = some (.int .i64 ((rd_T34 l0 x5_1).f0)) := (blk_cell BK108.out 0).trans rfl
                                have hcz46_1 : wr.cell? ⟨gb108, 1, none⟩ = some (.int .i64 ((rd_T34 l0 x5_1).f1)) := (blk_cell BK108.out 1).trans rfl
                                have hcz46_2 : wr.cell? ⟨gb108, 2, none⟩ = some (.int .i64 ((rd_T34 l0 x5_1).f2)) := (blk_cell BK108.out 2).trans rfl
                                have hcz46_3 : wr.cell? ⟨gb108, 3, none⟩ = some (.int .i64 ((rd_T34 l0 x5_1).f3)) := (blk_cell BK108.out 3).trans rfl
                                have hcz46_4 : wr.cell? ⟨gb108, 4, none⟩ = some (.slice A107_4 ((rd_T34 l0 x5_1).f4).length c107_4) := (blk_cell BK108.out 4).trans rfl
                                have hcz46_5 : wr.cell? ⟨gb108, 5, none⟩ = some (.slice A107_5 ((rd_T34 l0 x5_1).f5).length c107_5) := (blk_cell BK108.out 5).trans rfl
                                have hcz46_6 : wr.cell? ⟨gb108, 6, none⟩ = some (.int .u64 ((rd_T34 l0 x5_1).f6)) := (blk_cell BK108.out 6).trans rfl
                                have hcz46_7 : wr.cell? ⟨gb108, 7, none⟩ = some (.int .i64 ((rd_T34 l0 x5_1).f7)) := (blk_cell BK108.out 7).trans rfl
                                have hfz46_0 := blk_frozen BK108.out 0
                                have hfz46_1 := blk_frozen BK108.out 1
                                have hfz46_2 := blk_frozen BK108.out 2
                                have hfz46_3 := blk_frozen BK108.out 3
                                have hfz46_4 := blk_frozen BK108.out 4
                                have hfz46_5 := blk_frozen BK108.out 5
                                have hfz46_6 := blk_frozen BK108.out 6
                                have hfz46_7 := blk_frozen BK108.out 7
                                have p111 : 0 ≤ (x8_3 : Int) := of_decide_eq_true (by first | (with_reducible assumption) | assumption)
                                have q111 : x8_3 < (((rd_T34 l0 x5_1).f4).length : Int) := of_decide_eq_true (by first | (with_reducible assumption) | assumption)
                                obtain ⟨ad111, e111, hx111_0⟩ := Kd.at_int HR107_4.out x8_3 p111 q111
                                cases e111
                                replace hx111_0 := (HB.out.cell (World.block_lt_of_cell? w _ hx111_0)).trans hx111_0
                                replace p111 := eq_true p111
                                replace q111 := eq_true q111
                                have hcz47_0 : wr.cell? ⟨gb110, 0, none⟩ = some (.int .i64 ((rd_T34 l1 x5_1).f0)) := (blk_cell BK110.out 0).trans rfl
                                have hcz47_1 : wr.cell? ⟨gb110, 1, none⟩ = some (.int .i64 ((rd_T34 l1 x5_1).f1)) := (blk_cell BK110.out 1).trans rfl
                                have hcz47_2 : wr.cell? ⟨gb110, 2, none⟩ = some (.int .i64 ((rd_T34 l1 x5_1).f2)) := (blk_cell BK110.out 2).trans rfl
                                have hcz47_3 : wr.cell? ⟨gb110, 3, none⟩ = some (.int .i64 ((rd_T34 l1 x5_1).f3)) := (blk_cell BK110.out 3).trans rfl
                                have hcz47_4 : wr.cell? ⟨gb110, 4, none⟩ = some (.slice A109_4 ((rd_T34 l1 x5_1).f4).length c109_4) := (blk_cell BK110.out 4).trans rfl
                                have hcz47_5 : wr.cell? ⟨gb110, 5, none⟩ = some (.slice A109_5 ((rd_T34 l1 x5_1).f5).length c109_5) := (blk_cell BK110.out 5).trans rfl
                                have hcz47_6 : wr.cell? ⟨gb110, 6, none⟩ = some (.int .u64 ((rd_T34 l1 x5_1).f6)) := (blk_cell BK110.out 6).trans rfl
                                have hcz47_7 : wr.cell? ⟨gb110, 7, none⟩ = some (.int .i64 ((rd_T34 l1 x5_1).f7)) := (blk_cell BK110.out 7).trans rfl
                                have hfz47_0 := blk_frozen BK110.out 0
                                have hfz47_1 := blk_frozen BK110.out 1
                                have hfz47_2 := blk_frozen BK110.out 2
                                have hfz47_3 := blk_frozen BK110.out 3
                                have hfz47_4 := blk_frozen BK110.out 4
                                have hfz47_5 := blk_frozen BK110.out 5
                                have hfz47_6 := blk_frozen BK110.out 6
                                have hfz47_7 := blk_frozen BK110.out 7
                                have p112 : 0 ≤ (x8_3 : Int) := of_decide_eq_true (by first | (with_reducible assumption) | assumption)
                                have q112 : x8_3 < (((rd_T34 l1 x5_1).f4).length : Int) := of_decide_eq_true (by first | (with_reducible assumption) | assumption)
                                obtain ⟨ad112, e112, hx112_0⟩ := Kd.at_int HR109_4.out x8_3 p112 q112
                                cases e112
                                replace hx112_0 := (HB.out.cell (World.block_lt_of_cell? w _ hx112_0)).trans hx112_0
                                replace p112 := eq_true p112
                                replace q112 := eq_true q112
                                go_wp2
                                repeat (go_quiet (fail); try go_wp2)
                                go_roundg k3
                                case measure => have := HK1.out; have := HJ6.out; have := HK3.out; omega
                                case rel => exact ⟨(wrap64 (x8_3 + 1)), (by first | rfl | (refine congrArg Ending.returned (congrArg (Value.int .i64) (?_ : (0 : Int) = _)); decide +kernel) | (simp; done) | (simp [*]; done)), H', ⟨by have := HK1.out; have := HJ6.out; have := HK3.out; omega⟩, ⟨by (with_reducible repeat (first | refine blk_drewN ?_ _ | refine blk_drew ?_ | refine blk_alloc ?_ _)); exact BK108.out⟩, ⟨by (with_reducible repeat (first | refine blk_drewN ?_ _ | refine blk_drew ?_ | refine blk_alloc ?_ _)); exact BK110.out⟩, ⟨by repeat (first | (with_reducible first | exact HB.out | apply below_alloc | apply pw_below_drewN | apply below_drew1 | refine below_set ?_ GE108.out | refine below_set ?_ GE110.out) | exact HB.out)⟩⟩
                              · rw [if_neg c44] at H
                                have c44b0 : ((rd ((rd_T34 l0 x5_1).f4) x8_3) == (rd ((rd_T34 l1 x5_1).f4) x8_3)) = false := beq_eq_false_iff_ne.mpr c44
                                have c44b1 : ((rd ((rd_T34 l0 x5_1).f4) x8_3) != (rd ((rd_T34 l1 x5_1).f4) x8_3)) = true := bne_iff_ne.mpr c44
                                obtain rfl := Option.some.inj H
                                have hnb48 := NB108_110.out
                                have hnc48 := NB110_108.out
                                have hcz49_0 : wr.cell? ⟨gb108, 0, none⟩ = some (.int .i64 ((rd_T34 l0 x5_1).f0)) := (blk_cell BK108.out 0).trans rfl
                                have hcz49_1 : wr.cell? ⟨gb108, 1, none⟩ = some (.int .i64 ((rd_T34 l0 x5_1).f1)) := (blk_cell BK108.out 1).trans rfl
                                have hcz49_2 : wr.cell? ⟨gb108, 2, none⟩ = some (.int .i64 ((rd_T34 l0 x5_1).f2)) := (blk_cell BK108.out 2).trans rfl
                                have hcz49_3 : wr.cell? ⟨gb108, 3, none⟩ = some (.int .i64 ((rd_T34 l0 x5_1).f3)) := (blk_cell BK108.out 3).trans rfl
                                have hcz49_4 : wr.cell? ⟨gb108, 4, none⟩ = some (.slice A107_4 ((rd_T34 l0 x5_1).f4).length c107_4) := (blk_cell BK108.out 4).trans rfl
                                have hcz49_5 : wr.cell? ⟨gb108, 5, none⟩ = some (.slice A107_5 ((rd_T34 l0 x5_1).f5).length c107_5) := (blk_cell BK108.out 5).trans rfl
                                have hcz49_6 : wr.cell? ⟨gb108, 6, none⟩ = some (.int .u64 ((rd_T34 l0 x5_1).f6)) := (blk_cell BK108.out 6).trans rfl
                                have hcz49_7 : wr.cell? ⟨gb108, 7, none⟩ = some (.int .i64 ((rd_T34 l0 x5_1).f7)) := (blk_cell BK108.out 7).trans rfl
                                have hfz49_0 := blk_frozen BK108.out 0
                                have hfz49_1 := blk_frozen BK108.out 1
                                have hfz49_2 := blk_frozen BK108.out 2
                                have hfz49_3 := blk_frozen BK108.out 3
                                have hfz49_4 := blk_frozen BK108.out 4
                                have hfz49_5 := blk_frozen BK108.out 5
                                have hfz49_6 := blk_frozen BK108.out 6
                                have hfz49_7 := blk_frozen BK108.out 7
                                have p111 : 0 ≤ (x8_3 : Int) := of_decide_eq_true (by first | (with_reducible assumption) | assumption)
                                have q111 : x8_3 < (((rd_T34 l0 x5_1).f4).length : Int) := of_decide_eq_true (by first | (with_reducible assumption) | assumption)
                                obtain ⟨ad111, e111, hx111_0⟩ := Kd.at_int HR107_4.out x8_3 p111 q111
                                cases e111
                                replace hx111_0 := (HB.out.cell (World.block_lt_of_cell? w _ hx111_0)).trans hx111_0
                                replace p111 := eq_true p111
                                replace q111 := eq_true q111
                                have hcz50_0 : wr.cell? ⟨gb110, 0, none⟩ = some (.int .i64 ((rd_T34 l1 x5_1).f0)) := (blk_cell BK110.out 0).trans rfl
                                have hcz50_1 : wr.cell? ⟨gb110, 1, none⟩ = some (.int .i64 ((rd_T34 l1 x5_1).f1)) := (blk_cell BK110.out 1).trans rfl
                                have hcz50_2 : wr.cell? ⟨gb110, 2, none⟩ = some (.int .i64 ((rd_T34 l1 x5_1).f2)) := (blk_cell BK110.out 2).trans rfl
                                have hcz50_3 : wr.cell? ⟨gb110, 3, none⟩ = some (.int .i64 ((rd_T34 l1 x5_1).f3)) := (blk_cell BK110.out 3).trans rfl
                                have hcz50_4 : wr.cell? ⟨gb110, 4, none⟩ = some (.slice A109_4 ((rd_T34 l1 x5_1).f4).length c109_4) := (blk_cell BK110.out 4).trans rfl
                                have hcz50_5 : wr.cell? ⟨gb110, 5, none⟩ = some (.slice A109_5 ((rd_T34 l1 x5_1).f5).length c109_5) := (blk_cell BK110.out 5).trans rfl
                                have hcz50_6 : wr.cell? ⟨gb110, 6, none⟩ = some (.int .u64 ((rd_T34 l1 x5_1).f6)) := (blk_cell BK110.out 6).trans rfl
                                have hcz50_7 : wr.cell? ⟨gb110, 7, none⟩ = some (.int .i64 ((rd_T34 l1 x5_1).f7)) := (blk_cell BK110.out 7).trans rfl
                                have hfz50_0 := blk_frozen BK110.out 0
                                have hfz50_1 := blk_frozen BK110.out 1
                                have hfz50_2 := blk_frozen BK110.out 2
                                have hfz50_3 := blk_frozen BK110.out 3
                                have hfz50_4 := blk_frozen BK110.out 4
                                have hfz50_5 := blk_frozen BK110.out 5
                                have hfz50_6 := blk_frozen BK110.out 6
                                have hfz50_7 := blk_frozen BK110.out 7
                                have p112 : 0 ≤ (x8_3 : Int) := of_decide_eq_true (by first | (with_reducible assumption) | assumption)
                                have q112 : x8_3 < (((rd_T34 l1 x5_1).f4).length : Int) := of_decide_eq_true (by first | (with_reducible assumption) | assumption)
                                obtain ⟨ad112, e112, hx112_0⟩ := Kd.at_int HR109_4.out x8_3 p112 q112
                                cases e112
                                replace hx112_0 := (HB.out.cell (World.block_lt_of_cell? w _ hx112_0)).trans hx112_0
                                replace p112 := eq_true p112
                                replace q112 := eq_true q112
                                go_wp2
                                repeat (go_quiet (fail); try go_wp2)
                                go_ret
                                exact ⟨by first | rfl | (refine congrArg Ending.returned (congrArg (Value.int .i64) (?_ : (0 : Int) = _)); decide +kernel) | (simp [errW_none, errW_some] <;> rfl) | (simp [*, errW_none, errW_some] <;> rfl), by repeat (first | (with_reducible first | exact HB.out | apply below_alloc | apply pw_below_drewN | apply below_drew1 | refine below_set ?_ GE108.out | refine below_set ?_ GE110.out) | exact HB.out)⟩
                            · rw [if_neg c43] at H
                              exact absurd H (by simp)
                          · rw [if_neg c42] at H
                            exact absurd H (by simp)
                        · rw [if_neg c41] at H
                          have c41b0 : decide (x8_3 < (((rd_T34 l0 x5_1).f4).length : Int)) = false := decide_eq_false c41
                          clear c41
                          have H' := Aside0.mk H
                          clear H
                          have hnb51 := NB108_110.out
                          have hnc51 := NB110_108.out
                          have hcz52_0 : wr.cell? ⟨gb108, 0, none⟩ = some (.int .i64 ((rd_T34 l0 x5_1).f0)) := (blk_cell BK108.out 0).trans rfl
                          have hcz52_1 : wr.cell? ⟨gb108, 1, none⟩ = some (.int .i64 ((rd_T34 l0 x5_1).f1)) := (blk_cell BK108.out 1).trans rfl
                          have hcz52_2 : wr.cell? ⟨gb108, 2, none⟩ = some (.int .i64 ((rd_T34 l0 x5_1).f2)) := (blk_cell BK108.out 2).trans rfl
                          have hcz52_3 : wr.cell? ⟨gb108, 3, none⟩ = some (.int .i64 ((rd_T34 l0 x5_1).f3)) := (blk_cell BK108.out 3).trans rfl
                          have hcz52_4 : wr.cell? ⟨gb108, 4, none⟩ = some (.slice A107_4 ((rd_T34 l0 x5_1).f4).length c107_4) := (blk_cell BK108.out 4).trans rfl
                          have hcz52_5 : wr.cell? ⟨gb108, 5, none⟩ = some (.slice A107_5 ((rd_T34 l0 x5_1).f5).length c107_5) := (blk_cell BK108.out 5).trans rfl
                          have hcz52_6 : wr.cell? ⟨gb108, 6, none⟩ = some (.int .u64 ((rd_T34 l0 x5_1).f6)) := (blk_cell BK108.out 6).trans rfl
                          have hcz52_7 : wr.cell? ⟨gb108, 7, none⟩ = some (.int .i64 ((rd_T34 l0 x5_1).f7)) := (blk_cell BK108.out 7).trans rfl
                          have hfz52_0 := blk_frozen BK108.out 0
                          have hfz52_1 := blk_frozen BK108.out 1
                          have hfz52_2 := blk_frozen BK108.out 2
                          have hfz52_3 := blk_frozen BK108.out 3
                          have hfz52_4 := blk_frozen BK108.out 4
                          have hfz52_5 := blk_frozen BK108.out 5
                          have hfz52_6 := blk_frozen BK108.out 6
                          have hfz52_7 := blk_frozen BK108.out 7
                          go_wp2
                          repeat (go_quiet (fail); try go_wp2)
                          go_loopg [9] k3 (fun kq v9 w' => ∃ (x9_4 : Int), v9 = .int .i64 x9_4 ∧ Aside0 (spec_SameTree.l2 kq l0 l1 x5_1 x9_4 ((rd_T34 l0 x5_1).f0) ((rd_T34 l0 x5_1).f1) ((rd_T34 l0 x5_1).f2) ((rd_T34 l0 x5_1).f3) ((rd_T34 l0 x5_1).f4) ((rd_T34 l0 x5_1).f5) ((rd_T34 l0 x5_1).f6) ((rd_T34 l0 x5_1).f7) ((rd_T34 l1 x5_1).f0) ((rd_T34 l1 x5_1).f1) ((rd_T34 l1 x5_1).f2) ((rd_T34 l1 x5_1).f3) ((rd_T34 l1 x5_1).f4) ((rd_T34 l1 x5_1).f5) ((rd_T34 l1 x5_1).f6) ((rd_T34 l1 x5_1).f7) = some r) ∧ Aside0 (kq ≤ k3) ∧ Aside0 (w'.heap[gb108]? = some (.cells #[.int .i64 ((rd_T34 l0 x5_1).f0), .int .i64 ((rd_T34 l0 x5_1).f1), .int .i64 ((rd_T34 l0 x5_1).f2), .int .i64 ((rd_T34 l0 x5_1).f3), (.slice A107_4 ((rd_T34 l0 x5_1).f4).length c107_4), (.slice A107_5 ((rd_T34 l0 x5_1).f5).length c107_5), .int .u64 ((rd_T34 l0 x5_1).f6), .int .i64 ((rd_T34 l0 x5_1).f7)] 34 (0, 0))) ∧ Aside0 (w'.heap[gb110]? = some (.cells #[.int .i64 ((rd_T34 l1 x5_1).f0), .int .i64 ((rd_T34 l1 x5_1).f1), .int .i64 ((rd_T34 l1 x5_1).f2), .int .i64 ((rd_T34 l1 x5_1).f3), (.slice A109_4 ((rd_T34 l1 x5_1).f4).length c109_4), (.slice A109_5 ((rd_T34 l1 x5_1).f5).length c109_5), .int .u64 ((rd_T34 l1 x5_1).f6), .int .i64 ((rd_T34 l1 x5_1).f7)] 34 (0, 0))) ∧ Aside0 (Below w.heap.size w w'))
                          case atStart => exact ⟨(0), (by first | rfl | (refine congrArg Ending.returned (congrArg (Value.int .i64) (?_ : (0 : Int) = _)); decide +kernel) | (simp; done) | (simp [*]; done)), H', ⟨Nat.le_refl _⟩, ⟨by (with_reducible repeat (first | refine blk_drewN ?_ _ | refine blk_drew ?_ | refine blk_alloc ?_ _)); exact BK108.out⟩, ⟨by (with_reducible repeat (first | refine blk_drewN ?_ _ | refine blk_drew ?_ | refine blk_alloc ?_ _)); exact BK110.out⟩, ⟨by repeat (first | (with_reducible first | exact HB.out | apply below_alloc | apply pw_below_drewN | apply below_drew1 | refine below_set ?_ GE108.out | refine below_set ?_ GE110.out) | exact HB.out)⟩⟩
                          case round =>
                            clear H'
                            try clear c1
                            try clear p1
                            try clear q1
                            try clear hx1
                            try clear c2
                            try clear p2
                            try clear c3
                            try clear c3b0
                            try clear c3b1
                            try clear c3b2
                            try clear c4
                            try clear c4b0
                            try clear c5
                            try clear c5b0
                            try clear c6
                            try clear c6b0
                            try clear p6
                            try clear c10
                            try clear p10
                            try clear q10
                            try clear hx10
                            try clear c11
                            try clear p11
                            try clear q11
                            try clear hx11
                            try clear c13
                            try clear c13b0
                            try clear c13b1
                            try clear c14
                            try clear c14b0
                            try clear c14b1
                            try clear c15
                            try clear c15b0
                            try clear c15b1
                            try clear c16
                            try clear c16b0
                            try clear c16b1
                            try clear c17
                            try clear c17b0
                            try clear c17b1
                            try clear c18
                            try clear c18b0
                            try clear c18b1
                            try clear c18b2
                            try clear c19
                            try clear c22
                            try clear c25
                            try clear c28
                            try clear c31
                            try clear c34
                            try clear c37
                            try clear c40
                            try clear c41
                            try clear c41b0
                            try clear c42
                            try clear c42b0
                            try clear c43
                            try clear c43b0
                            try clear c44
                            try clear c44b0
                            try clear c44b1
                            try clear c45
                            try clear c48
                            try clear c51
                            try clear hcz12_0
                            try clear hcz12_1
                            try clear hcz12_2
                            try clear hcz12_3
                            try clear hcz12_4
                            try clear hcz12_5
                            try clear hcz12_6
                            try clear hcz12_7
                            try clear hcz20_0
                            try clear hcz20_1
                            try clear hcz20_2
                            try clear hcz20_3
                            try clear hcz20_4
                            try clear hcz20_5
                            try clear hcz20_6
                            try clear hcz20_7
                            try clear hcz21_0
                            try clear hcz21_1
                            try clear hcz21_2
                            try clear hcz21_3
                            try clear hcz21_4
                            try clear hcz21_5
                            try clear hcz21_6
                            try clear hcz21_7
                            try clear hcz23_0
                            try clear hcz23_1
                            try clear hcz23_2
                            try clear hcz23_3
                            try clear hcz23_4
                            try clear hcz23_5
                            try clear hcz23_6
                            try clear hcz23_7
                            try clear hcz24_0
                            try clear hcz24_1
                            try clear hcz24_2
                            try clear hcz24_3
                            try clear hcz24_4
                            try clear hcz24_5
                            try clear hcz24_6
                            try clear hcz24_7
                            try clear hcz26_0
                            try clear hcz26_1
                            try clear hcz26_2
                            try clear hcz26_3
                            try clear hcz26_4
                            try clear hcz26_5
                            try clear hcz26_6
                            try clear hcz26_7
                            try clear hcz27_0
                            try clear hcz27_1
                            try clear hcz27_2
                            try clear hcz27_3
                            try clear hcz27_4
                            try clear hcz27_5
                            try clear hcz27_6
                            try clear hcz27_7
                            try clear hcz29_0
                            try clear hcz29_1
                            try clear hcz29_2
                            try clear hcz29_3
                            try clear hcz29_4
                            try clear hcz29_5
                            try clear hcz29_6
                            try clear hcz29_7
                            try clear hcz30_0
                            try clear hcz30_1
                            try clear hcz30_2
                            try clear hcz30_3
                            try clear hcz30_4
                            try clear hcz30_5
                            try clear hcz30_6
                            try clear hcz30_7
                            try clear hcz32_0
                            try clear hcz32_1
                            try clear hcz32_2
                            try clear hcz32_3
                            try clear hcz32_4
                            try clear hcz32_5
                            try clear hcz32_6
                            try clear hcz32_7
                            try clear hcz33_0
                            try clear hcz33_1
                            try clear hcz33_2
                            try clear hcz33_3
                            try clear hcz33_4
                            try clear hcz33_5
                            try clear hcz33_6
                            try clear hcz33_7
                            try clear hcz35_0
                            try clear hcz35_1
                            try clear hcz35_2
                            try clear hcz35_3
                            try clear hcz35_4
                            try clear hcz35_5
                            try clear hcz35_6
                            try clear hcz35_7
                            try clear hcz36_0
                            try clear hcz36_1
                            try clear hcz36_2
                            try clear hcz36_3
                            try clear hcz36_4
                            try clear hcz36_5
                            try clear hcz36_6
                            try clear hcz36_7
                            try clear hcz38_0
                            try clear hcz38_1
                            try clear hcz38_2
                            try clear hcz38_3
                            try clear hcz38_4
                            try clear hcz38_5
                            try clear hcz38_6
                            try clear hcz38_7
                            try clear hcz39_0
                            try clear hcz39_1
                            try clear hcz39_2
                            try clear hcz39_3
                            try clear hcz39_4
                            try clear hcz39_5
                            try clear hcz39_6
                            try clear hcz39_7
                            try clear hcz46_0
                            try clear hcz46_1
                            try clear hcz46_2
                            try clear hcz46_3
                            try clear hcz46_4
                            try clear hcz46_5
                            try clear hcz46_6
                            try clear hcz46_7
                            try clear hcz47_0
                            try clear hcz47_1
                            try clear hcz47_2
                            try clear hcz47_3
                            try clear hcz47_4
                            try clear hcz47_5
                            try clear hcz47_6
                            try clear hcz47_7
                            try clear hcz49_0
                            try clear hcz49_1
                            try clear hcz49_2
                            try clear hcz49_3
                            try clear hcz49_4
                            try clear hcz49_5
                            try clear hcz49_6
                            try clear hcz49_7
                            try clear hcz50_0
                            try clear hcz50_1
                            try clear hcz50_2
                            try clear hcz50_3
                            try clear hcz50_4
                            try clear hcz50_5
                            try clear hcz50_6
                            try clear hcz50_7
                            try clear hcz52_0
                            try clear hcz52_1
                            try clear hcz52_2
                            try clear hcz52_3
                            try clear hcz52_4
                            try clear hcz52_5
                            try clear hcz52_6
                            try clear hcz52_7
                            try clear hcz9_0
                            try clear hcz9_1
                            try clear hcz9_2
                            try clear hcz9_3
                            try clear hcz9_4
                            try clear hcz9_5
                            try clear hcz9_6
                            try clear hcz9_7
                            try clear hfz12_0
                            try clear hfz12_1
                            try clear hfz12_2
                            try clear hfz12_3
                            try clear hfz12_4
                            try clear hfz12_5
                            try clear hfz12_6
                            try clear hfz12_7
                            try clear hfz20_0
                            try clear hfz20_1
                            try clear hfz20_2
                            try clear hfz20_3
                            try clear hfz20_4
                            try clear hfz20_5
                            try clear hfz20_6
                            try clear hfz20_7
                            try clear hfz21_0
                            try clear hfz21_1
                            try clear hfz21_2
                            try clear hfz21_3
                            try clear hfz21_4
                            try clear hfz21_5
                            try clear hfz21_6
                            try clear hfz21_7
                            try clear hfz23_0
                            try clear hfz23_1
                            try clear hfz23_2
                            try clear hfz23_3
                            try clear hfz23_4
                            try clear hfz23_5
                            try clear hfz23_6
                            try clear hfz23_7
                            try clear hfz24_0
                            try clear hfz24_1
                            try clear hfz24_2
                            try clear hfz24_3
                            try clear hfz24_4
                            try clear hfz24_5
                            try clear hfz24_6
                            try clear hfz24_7
                            try clear hfz26_0
                            try clear hfz26_1
                            try clear hfz26_2
                            try clear hfz26_3
                            try clear hfz26_4
                            try clear hfz26_5
                            try clear hfz26_6
                            try clear hfz26_7
                            try clear hfz27_0
                            try clear hfz27_1
                            try clear hfz27_2
                            try clear hfz27_3
                            try clear hfz27_4
                            try clear hfz27_5
                            try clear hfz27_6
                            try clear hfz27_7
                            try clear hfz29_0
                            try clear hfz29_1
                            try clear hfz29_2
                            try clear hfz29_3
                            try clear hfz29_4
                            try clear hfz29_5
                            try clear hfz29_6
                            try clear hfz29_7
                            try clear hfz30_0
                            try clear hfz30_1
                            try clear hfz30_2
                            try clear hfz30_3
                            try clear hfz30_4
                            try clear hfz30_5
                            try clear hfz30_6
                            try clear hfz30_7
                            try clear hfz32_0
                            try clear hfz32_1
                            try clear hfz32_2
                            try clear hfz32_3
                            try clear hfz32_4
                            try clear hfz32_5
                            try clear hfz32_6
                            try clear hfz32_7
                            try clear hfz33_0
                            try clear hfz33_1
                            try clear hfz33_2
                            try clear hfz33_3
                            try clear hfz33_4
                            try clear hfz33_5
                            try clear hfz33_6
                            try clear hfz33_7
                            try clear hfz35_0
                            try clear hfz35_1
                            try clear hfz35_2
                            try clear hfz35_3
                            try clear hfz35_4
                            try clear hfz35_5
                            try clear hfz35_6
                            try clear hfz35_7
                            try clear hfz36_0
                            try clear hfz36_1
                            try clear hfz36_2
                            try clear hfz36_3
                            try clear hfz36_4
                            try clear hfz36_5
                            try clear hfz36_6
                            try clear hfz36_7
                            try clear hfz38_0
                            try clear hfz38_1
                            try clear hfz38_2
                            try clear hfz38_3
                            try clear hfz38_4
                            try clear hfz38_5
                            try clear hfz38_6
                            try clear hfz38_7
                            try clear hfz39_0
                            try clear hfz39_1
                            try clear hfz39_2
                            try clear hfz39_3
                            try clear hfz39_4
                            try clear hfz39_5
                            try clear hfz39_6
                            try clear hfz39_7
                            try clear hfz46_0
                            try clear hfz46_1
                            try clear hfz46_2
                            try clear hfz46_3
                            try clear hfz46_4
                            try clear hfz46_5
                            try clear hfz46_6
                            try clear hfz46_7
                            try clear hfz47_0
                            try clear hfz47_1
                            try clear hfz47_2
                            try clear hfz47_3
                            try clear hfz47_4
                            try clear hfz47_5
                            try clear hfz47_6
                            try clear hfz47_7
                            try clear hfz49_0
                            try clear hfz49_1
                            try clear hfz49_2
                            try clear hfz49_3
                            try clear hfz49_4
                            try clear hfz49_5
                            try clear hfz49_6
                            try clear hfz49_7
                            try clear hfz50_0
                            try clear hfz50_1
                            try clear hfz50_2
                            try clear hfz50_3
                            try clear hfz50_4
                            try clear hfz50_5
                            try clear hfz50_6
                            try clear hfz50_7
                            try clear hfz52_0
                            try clear hfz52_1
                            try clear hfz52_2
                            try clear hfz52_3
                            try clear hfz52_4
                            try clear hfz52_5
                            try clear hfz52_6
                            try clear hfz52_7
                            try clear hfz9_0
                            try clear hfz9_1
                            try clear hfz9_2
                            try clear hfz9_3
                            try clear hfz9_4
                            try clear hfz9_5
                            try clear hfz9_6
                            try clear hfz9_7
                            try clear hx107_0
                            try clear hx107_1
                            try clear hx107_2
                            try clear hx107_3
                            try clear hx107_4
                            try clear hx107_5
                            try clear hx107_6
                            try clear hx107_7
                            try clear hx109_0
                            try clear hx109_1
                            try clear hx109_2
                            try clear hx109_3
                            try clear hx109_4
                            try clear hx109_5
                            try clear hx109_6
                            try clear hx109_7
                            try clear hx111_0
                            try clear hx112_0
                            try clear p1
                            try clear p10
                            try clear p107
                            try clear p109
                            try clear p111
                            try clear p112
                            try clear p2
                            try clear q1
                            try clear q10
                            try clear q107
                            try clear q109
                            try clear q111
                            try clear q112
                            obtain ⟨x9_4, rfl, HA, HK4, BK108, BK110, HB⟩ := hrel
                            cases gk with
                            | zero => exact absurd HA.out (by simp [spec_SameTree.l2])
                            | succ k4 =>
                              have H := HA.out
                              clear HA
                              simp only [spec_SameTree.l2] at H
                              by_cases c53 : x9_4 < (((rd_T34 l0 x5_1).f5).length : Int)
                              · rw [if_pos c53] at H
                                have c53b0 : decide (x9_4 < (((rd_T34 l0 x5_1).f5).length : Int)) = true := decide_eq_true c53
                                clear c53
                                by_cases c54 : 0 ≤ x9_4
                                · rw [if_pos c54] at H
                                  have c54b0 : decide (0 ≤ x9_4) = true := decide_eq_true c54
                                  clear c54
                                  by_cases c55 : x9_4 < (((rd_T34 l1 x5_1).f5).length : Int)
                                  · rw [if_pos c55] at H
                                    have c55b0 : decide (x9_4 < (((rd_T34 l1 x5_1).f5).length : Int)) = true := decide_eq_true c55
                                    clear c55
                                    by_cases c56 : (rdOf ByteArray.empty ((rd_T34 l0 x5_1).f5) x9_4).toList = (rdOf ByteArray.empty ((rd_T34 l1 x5_1).f5) x9_4).toList
                                    · rw [if_pos c56] at H
                                      have c56b0 : ((rdOf ByteArray.empty ((rd_T34 l0 x5_1).f5) x9_4).toList == (rdOf ByteArray.empty ((rd_T34 l1 x5_1).f5) x9_4).toList) = true := beq_iff_eq.mpr c56
                                      have c56b1 : ((rdOf ByteArray.empty ((rd_T34 l0 x5_1).f5) x9_4).toList != (rdOf ByteArray.empty ((rd_T34 l1 x5_1).f5) x9_4).toList) = false := bne_eq_false_iff_eq.mpr c56
                                      clear c56
                                      have H' := Aside0.mk H
                                      clear H
                                      have hnb57 := NB108_110.out
                                      have hnc57 := NB110_108.out
                                      have hcz58_0 : wr.cell? ⟨gb108, 0, none⟩ = some (.int .i64 ((rd_T34 l0 x5_1).f0)) := (blk_cell BK108.out 0).trans rfl
                                      have hcz58_1 : wr.cell? ⟨gb108, 1, none⟩ = some (.int .i64 ((rd_T34 l0 x5_1).f1)) := (blk_cell BK108.out 1).trans rfl
                                      have hcz58_2 : wr.cell? ⟨gb108, 2, none⟩ = some (.int .i64 ((rd_T34 l0 x5_1).f2)) := (blk_cell BK108.out 2).trans rfl
                                      have hcz58_3 : wr.cell? ⟨gb108, 3, none⟩ = some (.int .i64 ((rd_T34 l0 x5_1).f3)) := (blk_cell BK108.out 3).trans rfl
                                      have hcz58_4 : wr.cell? ⟨gb108, 4, none⟩ = some (.slice A107_4 ((rd_T34 l0 x5_1).f4).length c107_4) := (blk_cell BK108.out 4).trans rfl
                                      have hcz58_5 : wr.cell? ⟨gb108, 5, none⟩ = some (.slice A107_5 ((rd_T34 l0 x5_1).f5).length c107_5) := (blk_cell BK108.out 5).trans rfl
                                      have hcz58_6 : wr.cell? ⟨gb108, 6, none⟩ = some (.int .u64 ((rd_T34 l0 x5_1).f6)) := (blk_cell BK108.out 6).trans rfl
                                      have hcz58_7 : wr.cell? ⟨gb108, 7, none⟩ = some (.int .i64 ((rd_T34 l0 x5_1).f7)) := (blk_cell BK108.out 7).trans rfl
                                      have hfz58_0 := blk_frozen BK108.out 0
                                      have hfz58_1 := blk_frozen BK108.out 1
                                      have hfz58_2 := blk_frozen BK108.out 2
                                      have hfz58_3 := blk_frozen BK108.out 3
                                      have hfz58_4 := blk_frozen BK108.out 4
                                      have hfz58_5 := blk_frozen BK108.out 5
                                      have hfz58_6 := blk_frozen BK108.out 6
                                      have hfz58_7 := blk_frozen BK108.out 7
                                      have p113 : 0 ≤ (x9_4 : Int) := of_decide_eq_true (by first | (with_reducible assumption) | assumption)
                                      have q113 : x9_4 < (((rd_T34 l0 x5_1).f5).length : Int) := of_decide_eq_true (by first | (with_reducible assumption) | assumption)
                                      obtain ⟨ad113, e113, hx113_0⟩ := Kd.at_string HR107_5.out x9_4 p113 q113
                                      cases e113
                                      replace hx113_0 := (HB.out.cell (World.block_lt_of_cell? w _ hx113_0)).trans hx113_0
                                      replace p113 := eq_true p113
                                      replace q113 := eq_true q113
                                      have hcz59_0 : wr.cell? ⟨gb110, 0, none⟩ = some (.int .i64 ((rd_T34 l1 x5_1).f0)) := (blk_cell BK110.out 0).trans rfl
                                      have hcz59_1 : wr.cell? ⟨gb110, 1, none⟩ = some (.int .i64 ((rd_T34 l1 x5_1).f1)) := (blk_cell BK110.out 1).trans rfl
                                      have hcz59_2 : wr.cell? ⟨gb110, 2, none⟩ = some (.int .i64 ((rd_T34 l1 x5_1).f2)) := (blk_cell BK110.out 2).trans rfl
                                      have hcz59_3 : wr.cell? ⟨gb110, 3, none⟩ = some (.int .i64 ((rd_T34 l1 x5_1).f3)) := (blk_cell BK110.out 3).trans rfl
                                      have hcz59_4 : wr.cell? ⟨gb110, 4, none⟩ = some (.slice A109_4 ((rd_T34 l1 x5_1).f4).length c109_4) := (blk_cell BK110.out 4).trans rfl
                                      have hcz59_5 : wr.cell? ⟨gb110, 5, none⟩ = some (.slice A109_5 ((rd_T34 l1 x5_1).f5).length c109_5) := (blk_cell BK110.out 5).trans rfl
                                      have hcz59_6 : wr.cell? ⟨gb110, 6, none⟩ = some (.int .u64 ((rd_T34 l1 x5_1).f6)) := (blk_cell BK110.out 6).trans rfl
                                      have hcz59_7 : wr.cell? ⟨gb110, 7, none⟩ = some (.int .i64 ((rd_T34 l1 x5_1).f7)) := (blk_cell BK110.out 7).trans rfl
                                      have hfz59_0 := blk_frozen BK110.out 0
                                      have hfz59_1 := blk_frozen BK110.out 1
                                      have hfz59_2 := blk_frozen BK110.out 2
                                      have hfz59_3 := blk_frozen BK110.out 3
                                      have hfz59_4 := blk_frozen BK110.out 4
                                      have hfz59_5 := blk_frozen BK110.out 5
                                      have hfz59_6 := blk_frozen BK110.out 6
                                      have hfz59_7 := blk_frozen BK110.out 7
                                      have p114 : 0 ≤ (x9_4 : Int) := of_decide_eq_true (by first | (with_reducible assumption) | assumption)
                                      have q114 : x9_4 < (((rd_T34 l1 x5_1).f5).length : Int) := of_decide_eq_true (by first | (with_reducible assumption) | assumption)
                                      obtain ⟨ad114, e114, hx114_0⟩ := Kd.at_string HR109_5.out x9_4 p114 q114
                                      cases e114
                                      replace hx114_0 := (HB.out.cell (World.block_lt_of_cell? w _ hx114_0)).trans hx114_0
                                      replace p114 := eq_true p114
                                      replace q114 := eq_true q114
                                      go_wp2
                                      repeat (go_quiet (fail); try go_wp2)
                                      go_roundg k4
                                      case measure => have := HK1.out; have := HJ6.out; have := HK3.out; have := HK4.out; omega
                                      case rel => exact ⟨(wrap64 (x9_4 + 1)), (by first | rfl | (refine congrArg Ending.returned (congrArg (Value.int .i64) (?_ : (0 : Int) = _)); decide +kernel) | (simp; done) | (simp [*]; done)), H', ⟨by have := HK1.out; have := HJ6.out; have := HK3.out; have := HK4.out; omega⟩, ⟨by (with_reducible repeat (first | refine blk_drewN ?_ _ | refine blk_drew ?_ | refine blk_alloc ?_ _)); exact BK108.out⟩, ⟨by (with_reducible repeat (first | refine blk_drewN ?_ _ | refine blk_drew ?_ | refine blk_alloc ?_ _)); exact BK110.out⟩, ⟨by repeat (first | (with_reducible first | exact HB.out | apply below_alloc | apply pw_below_drewN | apply below_drew1 | refine below_set ?_ GE108.out | refine below_set ?_ GE110.out) | exact HB.out)⟩⟩
                                    · rw [if_neg c56] at H
                                      have c56b0 : ((rdOf ByteArray.empty ((rd_T34 l0 x5_1).f5) x9_4).toList == (rdOf ByteArray.empty ((rd_T34 l1 x5_1).f5) x9_4).toList) = false := beq_eq_false_iff_ne.mpr c56
                                      have c56b1 : ((rdOf ByteArray.empty ((rd_T34 l0 x5_1).f5) x9_4).toList != (rdOf ByteArray.empty ((rd_T34 l1 x5_1).f5) x9_4).toList) = true := bne_iff_ne.mpr c56
                                      obtain rfl := Option.some.inj H
                                      have hnb60 := NB108_110.out
                                      have hnc60 := NB110_108.out
                                      have hcz61_0 : wr.cell? ⟨gb108, 0, none⟩ = some (.int .i64 ((rd_T34 l0 x5_1).f0)) := (blk_cell BK108.out 0).trans rfl
                                      have hcz61_1 : wr.cell? ⟨gb108, 1, none⟩ = some (.int .i64 ((rd_T34 l0 x5_1).f1)) := (blk_cell BK108.out 1).trans rfl
                                      have hcz61_2 : wr.cell? ⟨gb108, 2, none⟩ = some (.int .i64 ((rd_T34 l0 x5_1).f2)) := (blk_cell BK108.out 2).trans rfl
                                      have hcz61_3 : wr.cell? ⟨gb108, 3, none⟩ = some (.int .i64 ((rd_T34 l0 x5_1).f3)) := (blk_cell BK108.out 3).trans rfl
                                      have hcz61_4 : wr.cell? ⟨gb108, 4, none⟩ = some (.slice A107_4 ((rd_T34 l0 x5_1).f4).length c107_4) := (blk_cell BK108.out 4).trans rfl
                                      have hcz61_5 : wr.cell? ⟨gb108, 5, none⟩ = some (.slice A107_5 ((rd_T34 l0 x5_1).f5).length c107_5) := (blk_cell BK108.out 5).trans rfl
                                      have hcz61_6 : wr.cell? ⟨gb108, 6, none⟩ = some (.int .u64 ((rd_T34 l0 x5_1).f6)) := (blk_cell BK108.out 6).trans rfl
                                      have hcz61_7 : wr.cell? ⟨gb108, 7, none⟩ = some (.int .i64 ((rd_T34 l0 x5_1).f7)) := (blk_cell BK108.out 7).trans rfl
                                      have hfz61_0 := blk_frozen BK108.out 0
                                      have hfz61_1 := blk_frozen BK108.out 1
                                      have hfz61_2 := blk_frozen BK108.out 2
                                      have hfz61_3 := blk_frozen BK108.out 3
                                      have hfz61_4 := blk_frozen BK108.out 4
                                      have hfz61_5 := blk_frozen BK108.out 5
                                      have hfz61_6 := blk_frozen BK108.out 6
                                      have hfz61_7 := blk_frozen BK108.out 7
                                      have p113 : 0 ≤ (x9_4 : Int) := of_decide_eq_true (by first | (with_reducible assumption) | assumption)
                                      have q113 : x9_4 < (((rd_T34 l0 x5_1).f5).length : Int) := of_decide_eq_true (by first | (with_reducible assumption) | assumption)
                                      obtain ⟨ad113, e113, hx113_0⟩ := Kd.at_string HR107_5.out x9_4 p113 q113
                                      cases e113
                                      replace hx113_0 := (HB.out.cell (World.block_lt_of_cell? w _ hx113_0)).trans hx113_0
                                      replace p113 := eq_true p113
                                      replace q113 := eq_true q113
                                      have hcz62_0 : wr.cell? ⟨gb110, 0, none⟩ = some (.int .i64 ((rd_T34 l1 x5_1).f0)) := (blk_cell BK110.out 0).trans rfl
                                      have hcz62_1 : wr.cell? ⟨gb110, 1, none⟩ = some (.int .i64 ((rd_T34 l1 x5_1).f1)) := (blk_cell BK110.out 1).trans rfl
                                      have hcz62_2 : wr.cell? ⟨gb110, 2, none⟩ = some (.int .i64 ((rd_T34 l1 x5_1).f2)) := (blk_cell BK110.out 2).trans rfl
                                      have hcz62_3 : wr.cell? ⟨gb110, 3, none⟩ = some (.int .i64 ((rd_T34 l1 x5_1).f3)) := (blk_cell BK110.out 3).trans rfl
                                      have hcz62_4 : wr.cell? ⟨gb110, 4, none⟩ = some (.slice A109_4 ((rd_T34 l1 x5_1).f4).length c109_4) := (blk_cell BK110.out 4).trans rfl
                                      have hcz62_5 : wr.cell? ⟨gb110, 5, none⟩ = some (.slice A109_5 ((rd_T34 l1 x5_1).f5).length c109_5) := (blk_cell BK110.out 5).trans rfl
                                      have hcz62_6 : wr.cell? ⟨gb110, 6, none⟩ = some (.int .u64 ((rd_T34 l1 x5_1).f6)) := (blk_cell BK110.out 6).trans rfl
                                      have hcz62_7 : wr.cell? ⟨gb110, 7, none⟩ = some (.int .i64 ((rd_T34 l1 x5_1).f7)) := (blk_cell BK110.out 7).trans rfl
                                      have hfz62_0 := blk_frozen BK110.out 0
                                      have hfz62_1 := blk_frozen BK110.out 1
                                      have hfz62_2 := blk_frozen BK110.out 2
                                      have hfz62_3 := blk_frozen BK110.out 3
                                      have hfz62_4 := blk_frozen BK110.out 4
                                      have hfz62_5 := blk_frozen BK110.out 5
                                      have hfz62_6 := blk_frozen BK110.out 6
                                      have hfz62_7 := blk_frozen BK110.out 7
                                      have p114 : 0 ≤ (x9_4 : Int) := of_decide_eq_true (by first | (with_reducible assumption) | assumption)
                                      have q114 : x9_4 < (((rd_T34 l1 x5_1).f5).length : Int) := of_decide_eq_true (by first | (with_reducible assumption) | assumption)
                                      obtain ⟨ad114, e114, hx114_0⟩ := Kd.at_string HR109_5.out x9_4 p114 q114
                                      cases e114
                                      replace hx114_0 := (HB.out.cell (World.block_lt_of_cell? w _ hx114_0)).trans hx114_0
                                      replace p114 := eq_true p114
                                      replace q114 := eq_true q114
                                      go_wp2
                                      repeat (go_quiet (fail); try go_wp2)
                                      go_ret
                                      exact ⟨by first | rfl | (refine congrArg Ending.returned (congrArg (Value.int .i64) (?_ : (0 : Int) = _)); decide +kernel) | (simp [errW_none, errW_some] <;> rfl) | (simp [*, errW_none, errW_some] <;> rfl), by repeat (first | (with_reducible first | exact HB.out | apply below_alloc | apply pw_below_drewN | apply below_drew1 | refine below_set ?_ GE108.out | refine below_set ?_ GE110.out) | exact HB.out)⟩
                                  · rw [if_neg c55] at H
                                    exact absurd H (by simp)
                                · rw [if_neg c54] at H
                                  exact absurd H (by simp)
                              · rw [if_neg c53] at H
                                have c53b0 : decide (x9_4 < (((rd_T34 l0 x5_1).f5).length : Int)) = false := decide_eq_false c53
                                clear c53
                                have H' := Aside0.mk H
                                clear H
                                have hnb63 := NB108_110.out
                                have hnc63 := NB110_108.out
                                have hcz64_0 : wr.cell? ⟨gb108, 0, none⟩ = some (.int .i64 ((rd_T34 l0 x5_1).f0)) := (blk_cell BK108.out 0).trans rfl
                                have hcz64_1 : wr.cell? ⟨gb108, 1, none⟩ = some (.int .i64 ((rd_T34 l0 x5_1).f1)) := (blk_cell BK108.out 1).trans rfl
                                have hcz64_2 : wr.cell? ⟨gb108, 2, none⟩ = some (.int .i64 ((rd_T34 l0 x5_1).f2)) := (blk_cell BK108.out 2).trans rfl
                                have hcz64_3 : wr.cell? ⟨gb108, 3, none⟩ = some (.int .i64 ((rd_T34 l0 x5_1).f3)) := (blk_cell BK108.out 3).trans rfl
                                have hcz64_4 : wr.cell? ⟨gb108, 4, none⟩ = some (.slice A107_4 ((rd_T34 l0 x5_1).f4).length c107_4) := (blk_cell BK108.out 4).trans rfl
                                have hcz64_5 : wr.cell? ⟨gb108, 5, none⟩ = some (.slice A107_5 ((rd_T34 l0 x5_1).f5).length c107_5) := (blk_cell BK108.out 5).trans rfl
                                have hcz64_6 : wr.cell? ⟨gb108, 6, none⟩ = some (.int .u64 ((rd_T34 l0 x5_1).f6)) := (blk_cell BK108.out 6).trans rfl
                                have hcz64_7 : wr.cell? ⟨gb108, 7, none⟩ = some (.int .i64 ((rd_T34 l0 x5_1).f7)) := (blk_cell BK108.out 7).trans rfl
                                have hfz64_0 := blk_frozen BK108.out 0
                                have hfz64_1 := blk_frozen BK108.out 1
                                have hfz64_2 := blk_frozen BK108.out 2
                                have hfz64_3 := blk_frozen BK108.out 3
                                have hfz64_4 := blk_frozen BK108.out 4
                                have hfz64_5 := blk_frozen BK108.out 5
                                have hfz64_6 := blk_frozen BK108.out 6
                                have hfz64_7 := blk_frozen BK108.out 7
                                go_wp2
                                repeat (go_quiet (fail); try go_wp2)
                                go_roundg k4
                                case measure => have := HK1.out; have := HJ6.out; have := HK3.out; have := HK4.out; omega
                                case rel => exact ⟨(wrap64 (x5_1 + 1)), (by first | rfl | (refine congrArg Ending.returned (congrArg (Value.int .i64) (?_ : (0 : Int) = _)); decide +kernel) | (simp; done) | (simp [*]; done)), H', ⟨by have := HK1.out; have := HJ6.out; have := HK3.out; have := HK4.out; omega⟩, ⟨by repeat (first | (with_reducible first | exact HB.out | apply below_alloc | apply pw_below_drewN | apply below_drew1 | refine below_set ?_ GE108.out | refine below_set ?_ GE110.out) | exact HB.out)⟩⟩
            · rw [if_neg c6] at H
              exact absurd H (by simp)
          · rw [if_neg c5] at H
            exact absurd H (by simp)
        · rw [if_neg c4] at H
          have c4b0 : decide (x5_1 < (l0.length : Int)) = false := decide_eq_false c4
          clear c4
          obtain rfl := Option.some.inj H
          go_wp2
          repeat (go_quiet (fail); try go_wp2)
          go_ret
          exact ⟨by first | rfl | (refine congrArg Ending.returned (congrArg (Value.int .i64) (?_ : (0 : Int) = _)); decide +kernel) | (simp [errW_none, errW_some] <;> rfl) | (simp [*, errW_none, errW_some] <;> rfl), by repeat (first | (with_reducible first | exact HB.out | apply below_alloc | apply pw_below_drewN | apply below_drew1) | exact HB.out)⟩
  · rw [if_neg c3] at H
    have c3b0 : ((l0.length : Int) == (l1.length : Int)) = false := beq_eq_false_iff_ne.mpr c3
    have c3b1 : ((l0.length : Int) != (l1.length : Int)) = true := bne_iff_ne.mpr c3
    have c3b2 : (l0.length == l1.length) = false := by first | simpa using c3 | (simp at c3 ⊢; omega)
    obtain rfl := Option.some.inj H
    go_enter Try.func5, Try.ntmps5
    go_wp2
    repeat (go_quiet (fail); try go_wp2)
    go_ret
    exact ⟨by first | rfl | (refine congrArg Ending.returned (congrArg (Value.int .i64) (?_ : (0 : Int) = _)); decide +kernel) | (simp [errW_none, errW_some] <;> rfl) | (simp [*, errW_none, errW_some] <;> rfl), by repeat (first | (with_reducible first | exact HB.out | apply below_alloc | apply pw_below_drewN | apply below_drew1) | exact HB.out)⟩

end Go.Proofs.Ytfoekmfpcahmiaa.MFnExactSameTree
