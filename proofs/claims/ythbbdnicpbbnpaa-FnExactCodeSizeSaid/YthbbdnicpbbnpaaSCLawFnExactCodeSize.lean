-- The row of a law over an image: this session's own, by its program lawimage.py.
import Derived.Test.YthbbdnicpbbnpaaRows
import Derived.Test.YthbbdnicpbbnpaaSCMFnExactCodeSizex13
import Derived.Test.YthbbdnicpbbnpaaSCPureFnExactCodeSize
import Derived.Test.YthbbdnicpbbnpaaSCOpens
import Derived.WalkKit
import Derived.ProofKit
import Derived.OpenShut
import Derived.ShutString
import Derived.ChangeOld
import Derived.Below
import Derived.SizedLaws
import Derived.Lib.SmallJoins
namespace Go.Proofs.Ythbbdnicpbbnpaa.fnExactCodeSize
open Go.ChangeShapes Go.WideShapes Go.ChangeAt Go.RowKit Go.Joins Go.Proofs.YthbbdnicpbbnpaaW.PrintWords Go.Proofs.Ythbbdnicpbbnpaa.Opens Go.Proofs.Ythbbdnicpbbnpaa.MFnExactCodeSize
theorem own : ownKnob Try.prog.godebug = none := by kernel_rfl
theorem laidOut : laidOutB Try.prog = true := by kernel_rfl
theorem cells54 : Try.prog.cellsOf 54 = 2 := by kernel_rfl
section
variable {H : Type} {enc : TypeId × Value → H} {w : World} {base : Nat} {spare : Nat → Bool} {held : Bool}
set_option maxRecDepth 100000 in
theorem o157 : Opens enc Try.prog w base spare held k157 157 (fun _ => True) := fun fuel cs x h => by
  obtain ⟨a, h1, _⟩ := opens_iso (f := fun x : S157 => (x.f0, x.f1)) (g := fun p => ⟨p.1, p.2⟩) (fun _ => rfl) (opens_struct Try.underlying157 (by kernel_rfl) (opensF_cons (off := 1) (opens_bool Try.underlying4) (opensF_last (opens_int Try.underlying3) (by kernel_rfl) rfl rfl) (by kernel_rfl) rfl rfl rfl)) fuel cs x h
  exact ⟨a, h1, trivial⟩
set_option maxRecDepth 100000 in
theorem o159 : Opens enc Try.prog w base spare held k159 159 (fun _ => True) := fun fuel cs x h => by
  obtain ⟨a, h1, _⟩ := opens_iso (f := fun x : S159 => (x.f0, x.f1, x.f2)) (g := fun p => ⟨p.1, p.2.1, p.2.2⟩) (fun _ => rfl) (opens_struct Try.underlying159 (by kernel_rfl) (opensF_cons (off := 1) (opens_int Try.underlying3) (opensF_cons (off := 2) (opens_int Try.underlying3) (opensF_last (opens_int Try.underlying3) (by kernel_rfl) rfl rfl) (by kernel_rfl) rfl rfl rfl) (by kernel_rfl) rfl rfl rfl)) fuel cs x h
  exact ⟨a, h1, trivial⟩
set_option maxRecDepth 100000 in
theorem o161 : Opens enc Try.prog w base spare held k161 161 (fun _ => True) := fun fuel cs x h => by
  obtain ⟨a, h1, _⟩ := opens_iso (f := fun x : S161 => (x.f0, x.f1, x.f2)) (g := fun p => ⟨p.1, p.2.1, p.2.2⟩) (fun _ => rfl) (opens_struct Try.underlying161 (by kernel_rfl) (opensF_cons (off := 1) (opens_int Try.underlying3) (opensF_cons (off := 2) (opens_int Try.underlying3) (opensF_last (opens_int Try.underlying3) (by kernel_rfl) rfl rfl) (by kernel_rfl) rfl rfl rfl) (by kernel_rfl) rfl rfl rfl)) fuel cs x h
  exact ⟨a, h1, trivial⟩
set_option maxRecDepth 100000 in
theorem o126 : Opens enc Try.prog w base spare held k126 126 (fun x => Pure.far126 x) := fun fuel cs x h => by
  obtain ⟨a, h1, h2⟩ := opens_iso (f := fun x : S126 => (x.f0, x.f1, x.f2, x.f3, x.f4)) (g := fun p => ⟨p.1, p.2.1, p.2.2.1, p.2.2.2.1, p.2.2.2.2⟩) (fun _ => rfl) (opens_struct Try.underlying126 (by kernel_rfl) (opensF_cons (off := 1) (opens_int Try.underlying3) (opensF_cons (off := 2) (opens_int Try.underlying3) (opensF_cons (off := 3) (opens_slice Try.underlying122 (by kernel_rfl) o157) (opensF_cons (off := 4) (opens_slice Try.underlying123 (by kernel_rfl) o159) (opensF_last (opens_slice Try.underlying124 (by kernel_rfl) o161) (by kernel_rfl) rfl rfl) (by kernel_rfl) rfl rfl rfl) (by kernel_rfl) rfl rfl rfl) (by kernel_rfl) rfl rfl rfl) (by kernel_rfl) rfl rfl rfl)) fuel cs x h
  exact ⟨a, h1, h2.2.2.1.1, h2.2.2.2.1.1, h2.2.2.2.2.1⟩
set_option maxRecDepth 100000 in
theorem o128 : Opens enc Try.prog w base spare held k128 128 (fun x => (Lit.int .u64 x.f1).wf = true ∧ x.f2.size ≤ maxLen) := fun fuel cs x h => by
  obtain ⟨a, h1, h2⟩ := opens_iso (f := fun x : S128 => (x.f0, x.f1, x.f2)) (g := fun p => ⟨p.1, p.2.1, p.2.2⟩) (fun _ => rfl) (opens_struct Try.underlying128 (by kernel_rfl) (opensF_cons (off := 1) (opens_int Try.underlying3) (opensF_cons (off := 2) (opens_int Try.underlying65) (opensF_last (opens_string Try.underlying9) (by kernel_rfl) rfl rfl) (by kernel_rfl) rfl rfl rfl) (by kernel_rfl) rfl rfl rfl)) fuel cs x h
  exact ⟨a, h1, h2.2.1, h2.2.2⟩
end
theorem walk (A0 : Option Addr) (c0 : Nat) (F : List S126) (A1 : Option Addr) (c1 : Nat) (C : List S128) (w : World) (hF : Kd.C k126 w A0 F.length F) (hc0 : F.length ≤ c0) (hC : Kd.C k128 w A1 C.length C) (hc1 : C.length ≤ c1)
    (lF : F.length ≤ maxLen) (lC : C.length ≤ maxLen) (hf : ∀ x ∈ F, Pure.far126 x) (hc : ∀ x ∈ C, (Lit.int .u64 x.f1).wf = true ∧ x.f2.size ≤ maxLen) :
    Calls Try.prog 11 #[.agg #[.slice A0 F.length c0, .slice A1 C.length c1]] w fun e w' => e = .returned (.bool true) ∧ Below w.heap.size w w' := by
  obtain ⟨k, h⟩ := Pure.FnExactCodeSize F C lF lC hf (fun x hx => (hc x hx).2) (fun x hx => (hc x hx).1)
  refine (laws_FnExactCodeSize.calls k A0 c0 F A1 c1 C true w hF hc0 hC hc1 h).mono ?_
  rintro e w' ⟨rfl, hd⟩
  exact ⟨rfl, hd⟩
set_option maxRecDepth 100000 in
theorem lifted (os : Os) (started : os.Started) (H : Type) (enc : TypeId × Value → H) :
    ReturnsInHanded {} Try.checked os 11 .any (Rows.fnExactCodeSizeSpec.pre6 enc Try.prog Try.f11 Rows.fnExactCodeSizeRow.domain false) (Rows.fnExactCodeSizeSpec.post enc Try.prog Try.f11 false true false false) := by
  refine returnsInHanded_of_change_sized (C := Try.checked) own started (by kernel_rfl) Try.func11
    (ChangeSpec.witness6 (enc := enc) (C := Try.checked) false ⟨#[], #[.agg #[.slice none 0 0, .slice none 0 0]], []⟩ 8 (by kernel_rfl) (by kernel_rfl) (by kernel_rfl) (by kernel_rfl)) ?_
  intro W base args ds gs before hval0 hW _ _ _
  have hval : ∀ (j : Nat) t v, Try.f11.params[j]? = some t → args[j]? = some v → Value.okWide Try.prog W .any base t v := hval0
  have hW' := hW
  obtain ⟨p, q, hA0, hV, rfl, _, _⟩ := hW
  have hA : DataW.TrodAll enc Try.prog W 0 (fun _ => true) true Try.f11.params.toList args.toList ds p := hA0
  rw [Try.params11] at hA hval
  obtain ⟨v0, vs0, d0, ds0, p0, q0, hargs, rfl, rfl, h0, r0⟩ := trodAll_cons hA
  obtain ⟨rfl, rfl, rfl⟩ := trodAll_nil r0
  obtain rfl : args = #[v0] := by cases args; simp_all
  obtain ⟨rfl, rfl⟩ := trodVars_none hV
  have k0 := h0
  have lt0 : ∀ x ∈ p0, x.block < W.heap.size := by obtain ⟨m, hm⟩ := k0; exact DataW.trod_lt m _ _ _ hm
  obtain ⟨c0, c1, y0, y1, m, rfl, rfl, rfl, hy0, hy1⟩ := open_agg2 Try.underlying54 (by kernel_rfl) cells54 (hval 0 54 v0 rfl rfl) h0
  obtain ⟨F, ⟨A0, n0, e0, hc0, hF⟩, lF, okF⟩ := opens_slice Try.underlying51 (by kernel_rfl) o126 _ _ _ hy0
  obtain ⟨C, ⟨A1, n1, e1, hc1, hC⟩, lC, okC⟩ := opens_slice Try.underlying52 (by kernel_rfl) o128 _ _ _ hy1
  simp at e0 e1
  subst e0 e1
  clear hA0 hval0
  refine (walk A0 n0 F A1 n1 C W hF hc0 hC hc1 lF lC okF okC).mono fun e W' ⟨he, bel⟩ => ?_
  subst he
  exact ⟨_, rfl, _, _, _, [], _, [], hW', trodAll_mk1 (shut_bool Try.underlying4 _), (trodAll_cons_mk (Below.trod laidOut (by kernel_rfl) (of_decide_eq_true (by kernel_rfl)) k0 bel lt0) trodAll_mk0), rfl, bel.frame _, fun h => by cases h⟩
theorem over : Rows.fnExactCodeSizeRow.holds Try.pinned (OpenSpec.ofChange Rows.fnExactCodeSizeSpec) :=
  OpenClaim.holds_of_wide 11 Try.f11 rfl rfl rfl rfl rfl rfl rfl ⟨rfl, rfl, rfl, rfl, rfl⟩ rfl rfl rfl rfl rfl (by kernel_rfl) Try.func11 (by kernel_rfl)
    (of_decide_eq_true (by kernel_rfl)) (by unfold Func.isWrapper; first | (rw [if_pos (by decide +kernel)]; kernel_rfl) | (rw [if_neg (by decide +kernel)]; exact ⟨rfl, rfl⟩))
    (fun os started H enc _ => lifted os started H enc)
theorem proved : Rows.FnExactCodeSizeSaid := over
#print axioms proved
end Go.Proofs.Ythbbdnicpbbnpaa.fnExactCodeSize
namespace Go.Proofs.Ythbbdnicpbbnpaa
/-- The row, under a short name, for the claim. -/
theorem fnExactCodeSize_holds : Rows.FnExactCodeSizeSaid := fnExactCodeSize.proved
end Go.Proofs.Ythbbdnicpbbnpaa
