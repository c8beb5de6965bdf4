/- This session's text, made small by mini.py. No condition beyond those typed. -/
import Derived.KernelRfl
namespace Go.Proofs.YtfoekmfpcahmiabGreatDoor
theorem zE {P : Prop} (h : P:=by first | rfl | (simp;done) | (simp [*];done)) : P:=h
theorem zF {P : Prop} (h : P:=by first | rfl | (simp [ZaF,ZaE] <;> rfl) | (simp [*,ZaF,ZaE] <;> rfl)) : P:=h
theorem zA {P : Prop} (h : P:=by first | (with_reducible assumption) | assumption) : P:=h
theorem zB {P : Prop} (h : P:=by repeat (first | (with_reducible first | exact HB.out | apply Zag | apply Zac | apply Zak | refine ZaO ?_ (Zaa.out (by assumption))) | exact HB.out)) : P:=h
theorem zK {P Q : Prop} (b : Q) (h : Q → P:=by intro h_;(with_reducible repeat (first | refine Zgr ?_ _ | refine ZhR ?_ | refine Zgs ?_ _));exact h_) : P:=h b
theorem zR {P Q : Prop} (b : Q) (h : Q → P:=by intro h_;(with_reducible repeat (first | apply Kd.Zby | apply Kd.Zbx | apply Kd.ZbU));exact h_) : P:=h b
theorem zD {P : Prop} (h : P:=by first | exact ⟨rfl,_,World.drewN_drewN _ _ _⟩ | exact ⟨rfl,_,Eq.trans (World.drewN_drewN _ _ _) (congrArg (World.drewN _) (Nat.add_assoc _ _ _))⟩) : P:=h
theorem zL {P : Prop} (h : P:=by (try simp only [List.map_toArray,List.map_cons,List.map_nil]) <;> rfl) : P:=h
theorem zW {P : Prop} (h : P:=by repeat (first | exact ZaB.refl _ | apply ZaB.step)) : P:=h
theorem zC {P : Prop} (h : P:=by repeat (first | (with_reducible first | exact HB.out | apply Zag | apply Zac | apply Zak) | refine Below.setCell ?_ (Zaa.out (by assumption)) _ | exact HB.out)) : P:=h
theorem zP {P Q : Prop} (b : Q) (h : Q → P:=by intro h_;repeat (first | exact h_ | (with_reducible refine Kd.C_alloc ?_ _) | (with_reducible refine Kd.C_drewN ?_ _) | (with_reducible refine Kd.C_drew ?_))) : P:=h b
theorem zT {α : Type} {a b : α} {P Q : Prop} (e : a = b) (q : Q) (h : a = b → Q → P:=by intro e_ H_;first | (rw [e_];with_reducible exact H_) | (have H2_:=(Option.bind_some _ _).symm.trans H_;rw [e_];with_reducible exact H2_) | (have H2_:=(Option.bind_some _ _).symm.trans H_;with_reducible exact H2_) | with_reducible exact H_ | (rw [e_];exact H_) | exact H_) : P:=h e q
theorem zS {P : Prop} (h : P:=by (try simp only [ByteArray.size_append,ByteArray.size_extract,zer_size,one46,two_e1,two_e2,two_0]);omega) : P:=h
theorem zM {α β : Type} {x : Option α} {f : α → Option β} {b : β} (h : x.bind f = some b) : ∃ a,x = some a ∧ f a = some b:=Option.bind_eq_some_iff.mp h
theorem zQ (lo hi : Nat) : (lo ≤ hi / 10 * 10 ∧ decide ((lo : Int) ≤ (hi : Int) / 10 * 10) = true) ∨ (¬ lo ≤ hi / 10 * 10 ∧ decide ((lo : Int) ≤ (hi : Int) / 10 * 10) = false ∧ lo < hi ∧ decide ((lo : Int) < (hi : Int)) = true) ∨ (¬ lo ≤ hi / 10 * 10 ∧ decide ((lo : Int) ≤ (hi : Int) / 10 * 10) = false ∧ ¬ lo < hi ∧ decide ((lo : Int) < (hi : Int)) = false):=by
  by_cases h : lo ≤ hi / 10 * 10
  · exact .inl ⟨h,decide_eq_true (by omega)⟩
  · by_cases k : lo < hi
    · exact .inr (.inl ⟨h,decide_eq_false (by omega),k,decide_eq_true (by omega)⟩)
    · exact .inr (.inr ⟨h,decide_eq_false (by omega),k,decide_eq_false (by omega)⟩)
theorem zo {P : Prop} (h : P:=by omega) : P:=h
theorem zO {P : Prop} (h : P:=by first | omega | exact Nat.le_refl _) : P:=h
end Go.Proofs.YtfoekmfpcahmiabGreatDoor
