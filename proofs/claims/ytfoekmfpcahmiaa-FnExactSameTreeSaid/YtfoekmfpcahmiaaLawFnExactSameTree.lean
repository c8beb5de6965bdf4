-- The row of a law over two trees: this session's own.
import Derived.Test.YtfoekmfpcahmiaaRows
import Derived.Test.YtfoekmfpcahmiaaMFnExactSameTreex5
import Derived.Test.YtfoekmfpcahmiaaPureFnExactSameTree
import Derived.Test.YtfoekmfpcahmiaaOpens
import Derived.WalkKit
import Derived.ProofKit
import Derived.OpenShut
import Derived.ShutString
import Derived.ChangeOld
import Derived.Below
import Derived.SizedLaws
import Derived.Lib.SmallJoins
namespace Go.Proofs.Ytfoekmfpcahmiaa.fnExactSameTree
open Go.ChangeShapes Go.WideShapes Go.ChangeAt Go.RowKit Go.Joins Go.Proofs.YtfoekmfpcahmiaaW.PrintWords Go.Proofs.Ytfoekmfpcahmiaa.Opens Go.Proofs.Ytfoekmfpcahmiaa.MFnExactSameTree
theorem own : ownKnob Try.prog.godebug = none := by kernel_rfl
theorem laidOut : laidOutB Try.prog = true := by kernel_rfl
section
variable {H : Type} {enc : TypeId × Value → H} {w : World} {base : Nat} {spare : Nat → Bool} {held : Bool}
set_option maxRecDepth 100000 in
theorem o33 : Opens enc Try.prog w base spare held k33 33 (fun x => Pure.far x) := fun fuel cs x h => by
  obtain ⟨a, h1, h2⟩ := opens_iso (f := fun x : S33 => (x.f0, x.f1, x.f2, x.f3, x.f4, x.f5, x.f6, x.f7)) (g := fun p => ⟨p.1, p.2.1, p.2.2.1, p.2.2.2.1, p.2.2.2.2.1, p.2.2.2.2.2.1, p.2.2.2.2.2.2.1, p.2.2.2.2.2.2.2⟩) (fun _ => rfl) (opens_struct Try.underlying33 (by kernel_rfl) (opensF_cons (off := 1) (opens_int Try.underlying3) (opensF_cons (off := 2) (opens_int Try.underlying3) (opensF_cons (off := 3) (opens_int Try.underlying3) (opensF_cons (off := 4) (opens_int Try.underlying3) (opensF_cons (off := 5) (opens_slice Try.underlying29 (by kernel_rfl) (opens_int Try.underlying3)) (opensF_cons (off := 6) (opens_slice Try.underlying30 (by kernel_rfl) (opens_string Try.underlying9)) (opensF_cons (off := 7) (opens_int Try.underlying31) (opensF_last (opens_int Try.underlying3) (by kernel_rfl) rfl rfl) (by kernel_rfl) rfl rfl rfl) (by kernel_rfl) rfl rfl rfl) (by kernel_rfl) rfl rfl rfl) (by kernel_rfl) rfl rfl rfl) (by kernel_rfl) rfl rfl rfl) (by kernel_rfl) rfl rfl rfl) (by kernel_rfl) rfl rfl rfl)) fuel cs x h
  exact ⟨a, h1, h2.2.2.2.2.1.1, h2.2.2.2.2.2.1.1, h2.2.2.2.2.2.1.2⟩
end
theorem walk (A0 : Option Addr) (c0 : Nat) (F : List S33) (A1 : Option Addr) (c1 : Nat) (C : List S33) (w : World) (hF : Kd.C k33 w A0 F.length F) (hc0 : F.length ≤ c0) (hC : Kd.C k33 w A1 C.length C) (hc1 : C.length ≤ c1)
    (lF : F.length ≤ maxLen) (lC : C.length ≤ maxLen) (hf : ∀ x ∈ F, Pure.far x) (hc : ∀ x ∈ C, Pure.far x) :
    Calls Try.prog 3 #[.slice A0 F.length c0, .slice A1 C.length c1] w fun e w' => e = .returned (.bool true) ∧ Below w.heap.size w w' := by
  obtain ⟨k, h⟩ := Pure.FnExactSameTree F C lF lC hf hc
  refine (laws_FnExactSameTree.calls k A0 c0 F A1 c1 C true w hF hc0 hC hc1 h).mono ?_
  rintro e w' ⟨rfl, hd⟩
  exact ⟨rfl, hd⟩
set_option maxRecDepth 100000 in
theorem lifted (os : Os) (started : os.Started) (H : Type) (enc : TypeId × Value → H) :
    ReturnsInHanded {} Try.checked os 3 .any (Rows.fnExactSameTreeSpec.pre6 enc Try.prog Try.f3 Rows.fnExactSameTreeRow.domain false) (Rows.fnExactSameTreeSpec.post enc Try.prog Try.f3 false true false false) := by
  refine returnsInHanded_of_change_sized (C := Try.checked) own started (by kernel_rfl) Try.func3
    (ChangeSpec.witness6 (enc := enc) (C := Try.checked) false ⟨#[], #[.slice none 0 0, .slice none 0 0], []⟩ 3 (by kernel_rfl) (by kernel_rfl) (by kernel_rfl) (by kernel_rfl)) ?_
  intro W base args ds gs before hval0 hW _ _ _
  have hval : ∀ (j : Nat) t v, Try.f3.params[j]? = some t → args[j]? = some v → Value.okWide Try.prog W .any base t v := hval0
  have hW' := hW
  obtain ⟨p, q, hA0, hV, rfl, _, _⟩ := hW
  have hA : DataW.TrodAll enc Try.prog W 0 (fun _ => true) true Try.f3.params.toList args.toList ds p := hA0
  rw [Try.params3] at hA hval
  obtain ⟨v0, vs0, d0, ds0, p0, q0, hargs, rfl, rfl, h0, r0⟩ := trodAll_cons hA
  obtain ⟨v1, vs1, d1, ds1, p1, q1, hargs1, rfl, rfl, h1, r1⟩ := trodAll_cons r0
  obtain ⟨rfl, rfl, rfl⟩ := trodAll_nil r1
  subst hargs1
  obtain rfl : args = #[v0, v1] := by cases args; simp_all
  obtain ⟨rfl, rfl⟩ := trodVars_none hV
  have k0 := h0
  have k1 := h1
  have lt0 : ∀ x ∈ p0, x.block < W.heap.size := by obtain ⟨m, hm⟩ := k0; exact DataW.trod_lt m _ _ _ hm
  have lt1 : ∀ x ∈ p1, x.block < W.heap.size := by obtain ⟨m, hm⟩ := k1; exact DataW.trod_lt m _ _ _ hm
  obtain ⟨a0, len0, cap0, rfl⟩ := okWide_slice Try.underlying22 (hval 0 22 v0 rfl rfl)
  obtain ⟨a1, len1, cap1, rfl⟩ := okWide_slice Try.underlying22 (hval 1 22 v1 rfl rfl)
  obtain ⟨m0, hy0⟩ := h0
  obtain ⟨m1, hy1⟩ := h1
  obtain ⟨F, ⟨A0, n0, e0, hc0, hF⟩, lF, okF⟩ := opens_slice Try.underlying22 (by kernel_rfl) o33 _ _ _ hy0
  obtain ⟨C, ⟨A1, n1, e1, hc1, hC⟩, lC, okC⟩ := opens_slice Try.underlying22 (by kernel_rfl) o33 _ _ _ hy1
  simp [Value.cells] at e0 e1
  obtain ⟨rfl, rfl, rfl⟩ := e0
  obtain ⟨rfl, rfl, rfl⟩ := e1
  clear hA0 hval0
  refine (walk a0 cap0 F a1 cap1 C W hF hc0 hC hc1 lF lC okF okC).mono fun e W' ⟨he, bel⟩ => ?_
  subst he
  exact ⟨_, rfl, _, _, _, [], _, [], hW', trodAll_mk1 (shut_bool Try.underlying4 _), (trodAll_cons_mk (Below.trod laidOut (by kernel_rfl) (of_decide_eq_true (by kernel_rfl)) k0 bel lt0) (trodAll_cons_mk (Below.trod laidOut (by kernel_rfl) (of_decide_eq_true (by kernel_rfl)) k1 bel lt1) trodAll_mk0)), rfl, bel.frame _, fun h => by cases h⟩
theorem over : Rows.fnExactSameTreeRow.holds Try.pinned (OpenSpec.ofChange Rows.fnExactSameTreeSpec) :=
  OpenClaim.holds_of_wide 3 Try.f3 rfl rfl rfl rfl rfl rfl rfl ⟨rfl, rfl, rfl, rfl, rfl⟩ rfl rfl rfl rfl rfl (by kernel_rfl) Try.func3 (by kernel_rfl)
    (of_decide_eq_true (by kernel_rfl)) (by unfold Func.isWrapper; first | (rw [if_pos (by decide +kernel)]; kernel_rfl) | (rw [if_neg (by decide +kernel)]; exact ⟨rfl, rfl⟩))
    (fun os started H enc _ => lifted os started H enc)
theorem proved : Rows.FnExactSameTreeSaid := over
#print axioms proved
end Go.Proofs.Ytfoekmfpcahmiaa.fnExactSameTree
namespace Go.Proofs.Ytfoekmfpcahmiaa
/-- The row, under a short name, for the claim. -/
theorem fnExactSameTree_holds : Rows.FnExactSameTreeSaid := fnExactSameTree.proved
end Go.Proofs.Ytfoekmfpcahmiaa
