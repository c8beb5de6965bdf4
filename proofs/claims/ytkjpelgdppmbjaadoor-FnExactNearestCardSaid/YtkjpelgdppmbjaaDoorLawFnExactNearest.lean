-- The tied card of Nearest: this session's own text, out of a printed row.
import Derived.Test.YtkjpelgdppmbjaaDoorRows
import Derived.Test.YtkjpelgdppmbjaaDoorK7
import Derived.Test.YtkjpelgdppmbjaaDoorK8
import Derived.WalkKit
import Derived.ProofKit
import Derived.OpenShut
import Derived.ShutString
import Derived.ChangeOld
import Derived.Below
import Derived.LaidMore
import Derived.Lay
import Derived.SevenTiedAt
import Derived.Stop.Joined
import Derived.Test.YtkjpelgdppmbjaaDoorTie
import Derived.Test.YtkjpelgdppmbjaaDoorCards
import Derived.SizedLaws
namespace Go.Proofs.YtkjpelgdppmbjaaDoor.fnExactNearest
open Go.ChangeShapes Go.WideShapes Go.ChangeAt Go.RowKit
open Go.ChangeMaps (open_string shut_string)
open Go.Proofs.YtkjpelgdppmbjaaDoor.SF
set_option linter.unusedVariables false
/-- What the row lists is what the walk asks for. -/
theorem home {W : World} (h : laidMet Tryd.prog Rows.fnExactNearestRow.laid W) : Home W W.heap.size := by
  obtain ⟨ps, hv, _⟩ := h
  have r4 := reads_of hv ("internal/strconv.float64info", Rows.laid_internal_strconv_float64info) (List.mem_of_getElem? (i := 3) rfl)
  have r5 := reads_of hv ("internal/strconv.optimize", Rows.laid_internal_strconv_optimize) (List.mem_of_getElem? (i := 4) rfl)
  have r6 := reads_of hv ("internal/strconv.powtab", Rows.laid_internal_strconv_powtab) (List.mem_of_getElem? (i := 5) rfl)
  have r7 := reads_of hv ("internal/strconv.float64pow10", Rows.laid_internal_strconv_float64pow10) (List.mem_of_getElem? (i := 6) rfl)
  have r10 := reads_of hv ("strconv.ErrRange", Rows.laid_strconv_ErrRange) (List.mem_of_getElem? (i := 9) rfl)
  have r12 := reads_of hv ("internal/strconv.leftcheats", Rows.laid_internal_strconv_leftcheats) (List.mem_of_getElem? (i := 11) rfl)
  have r13 := reads_of hv ("internal/strconv.pow10Tab", Rows.laid_internal_strconv_pow10Tab) (List.mem_of_getElem? (i := 12) rfl)
  have e7 : (Rows.laid_internal_strconv_float64pow10 : DataW Unit) = .slice (tenWords.map fun x => .lit (.float .f64 x)) [] := by kernel_rfl
  have e6 : (Rows.laid_internal_strconv_powtab : DataW Unit) = .slice ([1, 3, 6, 9, 13, 16, 19, 23, 26].map fun (x : Int) => .lit (.int .i64 x)) [] := by kernel_rfl
  simp only [e7] at r7
  simp only [e6] at r6
  have ho := opt_of r5
  obtain ⟨k1, k2⟩ := err_of r10
  exact ⟨⟨info_of r4, tens_of r7, pow_of r13, cheats_of r12, tab9_of r6, cell_lt ho, ho⟩, k1, k2⟩
theorem own : ownKnob Tryd.prog.godebug = none := by kernel_rfl
set_option maxRecDepth 100000 in
theorem lifted (os : Os) (started : os.Started) (H : Type) (enc : TypeId × Value → H) :
    ReturnsInHanded {} Tryd.checked os 3 .any (fun w args => (Rows.fnExactNearestSpec.pre enc Tryd.prog Tryd.f3 Rows.fnExactNearestRow.domain false w args ∧ laidMetH Tryd.prog Rows.fnExactNearestRow.laid w) ∧ sizedMet enc Tryd.prog Tryd.f3 (OpenSpec.ofChange Rows.fnExactNearestSpec) false w args) (Rows.fnExactNearestSpec.post enc Tryd.prog Tryd.f3 false true false false) := by
  refine returnsInHanded_of_change_and (C := Tryd.checked) (X := fun w _ => laidMetH Tryd.prog Rows.fnExactNearestRow.laid w) (fun _ _ _ hh h => h.of_heap hh) own started (by kernel_rfl) Tryd.func3
    (ChangeSpec.witness_shaped (enc := enc) (C := Tryd.checked) (os := os) (X := fun w _ => laidMetH Tryd.prog Rows.fnExactNearestRow.laid w) false (World.laidAll Tryd.prog os Rows.fnExactNearestRow.laid) #[.string ByteArray.empty, .int .i64 0] 8 (World.laidAll_os _ _ _)
      (World.shaped_of_ZipB (by kernel_rfl) (by kernel_rfl)) (by kernel_rfl) (by kernel_rfl) (by kernel_rfl)
      (by rw [MakeChecks.laidMetH_plain _ _ _ (by kernel_rfl)]; exact laidMet_laidAll _ (by kernel_rfl) (by kernel_rfl))) ?_
  intro W base args ds gs before hval0 hW hcnd hsz0 hL _
  have hsz : (DataW.weightsEach Tryd.prog (Tryd.f3.params.toList ++ Rows.fnExactNearestSpec.plain.varTypes Tryd.prog) (ds ++ gs)).all (· ≤ reachBytes) = true := hsz0
  have hval : ∀ (j : Nat) t v, Tryd.f3.params[j]? = some t → args[j]? = some v → Value.okWide Tryd.prog W .any base t v := hval0
  have hW' := hW
  obtain ⟨p, q, hA0, hV, rfl, hfz, hnd⟩ := hW
  have hA : DataW.TrodAll enc Tryd.prog W 0 (fun _ => true) true Tryd.f3.params.toList args.toList ds p := hA0
  rw [Tryd.params3] at hA hval hsz
  obtain ⟨v0, vs0, d0, ds0, p0, q0, hargs, rfl, rfl, h0, r0⟩ := trodAll_cons hA
  obtain ⟨v1, vs1, d1, ds1, p1, q1, rfl, rfl, rfl, h1, r1⟩ := trodAll_cons r0
  obtain ⟨rfl, rfl, rfl⟩ := trodAll_nil r1
  obtain rfl : args = #[v0, v1] := by cases args; simp_all
  obtain ⟨rfl, rfl⟩ := trodVars_none hV
  obtain ⟨a0, rfl, rfl, rfl, y0⟩ := open_string Tryd.underlying9 (hval 0 9 v0 rfl rfl) h0
  obtain ⟨a1, rfl, rfl, rfl, w1⟩ := open_int Tryd.underlying3 (hval 1 3 v1 rfl rfl) h1
  have w0 : a0.size ≤ 140737488351232 := by
    have z := sized_string hsz (j := 0) (t := 9) rfl rfl
    rw [Array.length_toList] at z
    exact z
  clear hA0 hval0 hsz0 hsz
  rw [MakeChecks.laidMetH_plain _ _ _ (by kernel_rfl)] at hL
  refine (law_calls a0 a1 W W.heap.size (Nat.le_refl _) (home hL) w0).mono fun e W' ⟨he, bel⟩ => ?_
  subst he
  exact ⟨_, rfl, _, _, _, [], _, [], hW', trodAll_mk1 (shut_bool Tryd.underlying4 _), (trodAll_cons_mk (shut_string Tryd.underlying9 y0) (trodAll_cons_mk (shut_int Tryd.underlying3 w1) trodAll_mk0)), rfl, bel.frame _, fun h => by cases h⟩
theorem over : Rows.fnExactNearestRow.holds Tryd.pinned (OpenSpec.ofChange Rows.fnExactNearestSpec) :=
  OpenClaim.holds_of_wide 3 Tryd.f3 rfl rfl rfl rfl rfl rfl rfl ⟨rfl, rfl, rfl, rfl, rfl⟩ rfl rfl rfl rfl rfl (by kernel_rfl) Tryd.func3 (by kernel_rfl)
    (of_decide_eq_true (by kernel_rfl)) (by unfold Func.isWrapper; first | (rw [if_pos (by decide +kernel)]; kernel_rfl) | (rw [if_neg (by decide +kernel)]; exact ⟨rfl, rfl⟩))
    (fun os started H enc _ => lifted os started H enc)
theorem card : Rows.FnExactNearestCardSaid :=
  Claim7.holds_tied_plain_at .later [] [.data, .data, .widerDeep, .widerDeep, .data, .data, .data, .data, .data, .sentinel, .sentinel, .pinned, .pinned] true (true, "347f2eb4ab49d6ad14d537ac1fb6638b979330db19b1ff8f4f30d1852bacfeb0") true over (fun _ h => by cases h) (by kernel_rfl) (fun _ h => by cases h) fnExactNearest_row_tie rfl ⟨rfl, rfl⟩ (by kernel_rfl) rfl
    (fun f fn hf hfn => by
      obtain rfl : f = 3 := Option.some.inj ((show Tryd.prog.funcNamed "loop.example/g00115/laws.FnExactNearest" = some 3 by kernel_rfl).symm.trans hf) |>.symm
      obtain rfl : fn = Tryd.f3 := (Option.some.inj (Tryd.func3.symm.trans hfn)).symm
      exact ⟨by kernel_rfl, fun j t ht => by
        rw [Tryd.params3] at ht
        have hm : t ∈ [9, 3] := by simpa using Array.mem_of_getElem? ht
        have hall : ([9, 3].all fun u => !Tryd.prog.wantsStandIn u) = true := by kernel_rfl
        exact (show Tryd.prog.wantsStandIn t = false by simpa using List.all_eq_true.1 hall t hm)⟩)
    (by kernel_rfl)
#print axioms card
end Go.Proofs.YtkjpelgdppmbjaaDoor.fnExactNearest
namespace Go.Proofs.YtkjpelgdppmbjaaDoor
/-- The card, under a short name, for the claim. -/
theorem fnExactNearestCard_holds : Rows.FnExactNearestCardSaid := fnExactNearest.card
end Go.Proofs.YtkjpelgdppmbjaaDoor
