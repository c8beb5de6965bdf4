-- by this session's own program mp.py over the kit's printer
import Derived.Test.YtkjpelgdppmbjaaGreatDoorSWJoFnExactShowNumber
import Derived.Test.YtkjpelgdppmbjaaGreatDoorRows
import Derived.Test.YtkjpelgdppmbjaaGreatDoorSWMFnExactShowNumberx12
import Derived.Test.YtkjpelgdppmbjaaGreatDoorSWPureFnExactShowNumber
import Derived.WalkKit
import Derived.ProofKit
import Derived.OpenShut
import Derived.ShutString
import Derived.ChangeOld
import Derived.Below
import Derived.SizedLaws
import Derived.LaidMore
import Derived.Lay
import Derived.SevenTiedAt
import Derived.Stop.Joined
import Derived.Test.YtkjpelgdppmbjaaGreatDoorTie
import Derived.Test.YtkjpelgdppmbjaaGreatDoorCards
import Derived.Test.YtkjpelgdppmbjaaGreatDoorSWK8
import Derived.Test.YtkjpelgdppmbjaaGreatDoorSWKA
namespace Go.Proofs.YtkjpelgdppmbjaaGreatDoor.fnExactShowNumber
open Go.ChangeShapes Go.WideShapes Go.ChangeAt Go.RowKit
open Go.ChangeMaps (open_string shut_string)
set_option linter.unusedVariables false
open Go.Proofs.YtkjpelgdppmbjaaGreatDoor.SF in
/-- What the row lists is what the walk asks for. -/
theorem home {W : World} (h : laidMet Tryz.prog Rows.fnExactShowNumberRow.laid W) : Tome W W.heap.size := by
  obtain ⟨ps, hv, _⟩ := h
  have r0 := reads_of hv ("internal/strconv.pow10Tab", Rows.laid_internal_strconv_pow10Tab) (List.mem_of_getElem? (i := 8) rfl)
  have r1 := reads_of hv ("internal/strconv.uint64pow10", Rows.laid_internal_strconv_uint64pow10) (List.mem_of_getElem? (i := 3) rfl)
  have e1 : (Rows.laid_internal_strconv_uint64pow10 : DataW Unit) = Lib.tabData .u64 Lib.pow10Tab := by kernel_rfl
  simp only [e1] at r1
  exact tome_of r0 r1
theorem own : ownKnob Tryz.prog.godebug = none := by kernel_rfl
set_option maxRecDepth 100000 in
theorem lifted (os : Os) (started : os.Started) (H : Type) (enc : TypeId × Value → H) :
    ReturnsInHanded {} Tryz.checked os 8 .any (fun w args => (Rows.fnExactShowNumberSpec.pre enc Tryz.prog Tryz.f8 Rows.fnExactShowNumberRow.domain false w args ∧ laidMetH Tryz.prog Rows.fnExactShowNumberRow.laid w) ∧ sizedMet enc Tryz.prog Tryz.f8 (OpenSpec.ofChange Rows.fnExactShowNumberSpec) false w args) (Rows.fnExactShowNumberSpec.post enc Tryz.prog Tryz.f8 false true false false) := by
  refine returnsInHanded_of_change_and (C := Tryz.checked) (X := fun w _ => laidMetH Tryz.prog Rows.fnExactShowNumberRow.laid w) (fun _ _ _ hh h => h.of_heap hh) own started (by kernel_rfl) Tryz.func8
    (ChangeSpec.witness_shaped (enc := enc) (C := Tryz.checked) (os := os) (X := fun w _ => laidMetH Tryz.prog Rows.fnExactShowNumberRow.laid w) false (World.laidAll Tryz.prog os Rows.fnExactShowNumberRow.laid) #[.int .u64 0] 8 (World.laidAll_os _ _ _)
      (World.shaped_of_ZipB (by kernel_rfl) (by kernel_rfl)) (by kernel_rfl) (by kernel_rfl) (by kernel_rfl)
      (by rw [MakeChecks.laidMetH_plain _ _ _ (by kernel_rfl)]; exact laidMet_laidAll _ (by kernel_rfl) (by kernel_rfl))) ?_
  intro W base args ds gs before hval0 hW hcnd hsz0 hL _
  have hsz : (DataW.weightsEach Tryz.prog (Tryz.f8.params.toList ++ Rows.fnExactShowNumberSpec.plain.varTypes Tryz.prog) (ds ++ gs)).all (· ≤ reachBytes) = true := hsz0
  have hval : ∀ (j : Nat) t v, Tryz.f8.params[j]? = some t → args[j]? = some v → Value.okWide Tryz.prog W .any base t v := hval0
  have hW' := hW
  obtain ⟨p, q, hA0, hV, rfl, hfz, hnd⟩ := hW
  have hA : DataW.TrodAll enc Tryz.prog W 0 (fun _ => true) true Tryz.f8.params.toList args.toList ds p := hA0
  rw [Tryz.params8] at hA hval hsz
  obtain ⟨v0, vs0, d0, ds0, p0, q0, hargs, rfl, rfl, h0, r0⟩ := trodAll_cons hA
  obtain ⟨rfl, rfl, rfl⟩ := trodAll_nil r0
  obtain rfl : args = #[v0] := by cases args; simp_all
  obtain ⟨rfl, rfl⟩ := trodVars_none hV
  obtain ⟨a0, rfl, rfl, rfl, w0⟩ := open_int Tryz.underlying24 (hval 0 24 v0 rfl rfl) h0
  clear hA0 hval0 hsz0 hsz
  rw [MakeChecks.laidMetH_plain _ _ _ (by kernel_rfl)] at hL
  refine (MFnExactShowNumber.laws_FnExactShowNumber.walk Pure.FnExactShowNumber a0 W ⟨W.heap.size, Nat.le_refl _, home hL⟩ w0).mono fun e W' ⟨he, bel⟩ => ?_
  subst he
  exact ⟨_, rfl, _, _, _, [], _, [], hW', trodAll_mk1 (shut_bool Tryz.underlying4 _), (trodAll_cons_mk (shut_int Tryz.underlying24 w0) trodAll_mk0), rfl, bel.frame _, fun h => by cases h⟩
theorem over : Rows.fnExactShowNumberRow.holds Tryz.pinned (OpenSpec.ofChange Rows.fnExactShowNumberSpec) :=
  OpenClaim.holds_of_wide 8 Tryz.f8 rfl rfl rfl rfl rfl rfl rfl ⟨rfl, rfl, rfl, rfl, rfl⟩ rfl rfl rfl rfl rfl (by kernel_rfl) Tryz.func8 closedFacts
    (of_decide_eq_true (by kernel_rfl)) (by unfold Func.isWrapper; first | (rw [if_pos (by decide +kernel)]; kernel_rfl) | (rw [if_neg (by decide +kernel)]; exact ⟨rfl, rfl⟩))
    (fun os started H enc _ => lifted os started H enc)
theorem card : Rows.FnExactShowNumberCardSaid :=
  Claim7.holds_tied_plain_at .later [] [.data, .data, .data, .data, .data, .sentinel, .sentinel, .pinned, .pinned, .pinned] true (true, "548d63157fb89d7fbef8ae9101512b1ee01e269ba596a308e2aa6bab7dc7317c") true over (fun _ h => by cases h) (by kernel_rfl) (fun _ h => by cases h) fnExactShowNumber_row_tie rfl ⟨rfl, rfl⟩ (by kernel_rfl) rfl
    (fun f fn hf hfn => by
      obtain rfl : f = 8 := Option.some.inj ((show Tryz.prog.funcNamed "loop.example/g00115/laws.FnExactShowNumber" = some 8 by kernel_rfl).symm.trans hf) |>.symm
      obtain rfl : fn = Tryz.f8 := (Option.some.inj (Tryz.func8.symm.trans hfn)).symm
      exact ⟨by kernel_rfl, fun j t ht => by
        rw [Tryz.params8] at ht
        have hm : t ∈ [24] := by simpa using Array.mem_of_getElem? ht
        have hall : ([24].all fun u => !Tryz.prog.wantsStandIn u) = true := by kernel_rfl
        exact (show Tryz.prog.wantsStandIn t = false by simpa using List.all_eq_true.1 hall t hm)⟩)
    (by kernel_rfl)
#print axioms card
end Go.Proofs.YtkjpelgdppmbjaaGreatDoor.fnExactShowNumber
namespace Go.Proofs.YtkjpelgdppmbjaaGreatDoor
/-- The card, under a short name, for the claim. -/
theorem fnExactShowNumberCard_holds : Rows.FnExactShowNumberCardSaid := fnExactShowNumber.card
end Go.Proofs.YtkjpelgdppmbjaaGreatDoor
