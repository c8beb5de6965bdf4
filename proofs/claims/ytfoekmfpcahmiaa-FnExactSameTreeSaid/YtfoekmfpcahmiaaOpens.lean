/- What reads as data of a type is a kind's row of something: by kinds. No conditions beyond those typed. -/
import Derived.Test.YtfoekmfpcahmiaaWMore
import Derived.Deep.Slices
import Derived.Deep.Fields
import Derived.ChangeSame
namespace Go.Proofs.Ytfoekmfpcahmiaa.Opens
open Go.ChangeShapes Go.WideShapes Go.Deep Go.RowKit Go.Proofs.YtfoekmfpcahmiaaW.PrintWords
variable {H : Type}
/-- Data of a type reads as a kind's row of something that is ok. -/
def Opens {α : Type} (enc : TypeId × Value → H) (P : Program) (w : World) (base : Nat) (spare : Nat → Bool) (held : Bool) (d : Kd α) (t : TypeId) (ok : α → Prop) : Prop :=
  ∀ fuel cs x, DataW.trod enc P w base spare held fuel t cs = some x → ∃ a, d.K w a cs ∧ ok a
variable {enc : TypeId × Value → H} {P : Program} {w : World} {base : Nat} {spare : Nat → Bool} {held : Bool}
theorem opens_int {t : TypeId} {k : IntKind} (ht : P.underlying t = some (.int k)) : Opens enc P w base spare held (Kd.int k) t (fun n => (Lit.int k n).wf = true) := by
  intro fuel cs x h
  obtain ⟨n, e, _, hw⟩ := DataW.trod_int ht h
  exact ⟨n, e, hw⟩
theorem opens_string {t : TypeId} (ht : P.underlying t = some .string) : Opens enc P w base spare held Kd.string t (fun s => s.size ≤ maxLen) := by
  intro fuel cs x h
  obtain ⟨s, e, _, hw⟩ := DataW.trod_string ht h
  exact ⟨s, e, hw⟩
theorem opens_bool {t : TypeId} (ht : P.underlying t = some .bool) : Opens enc P w base spare held Kd.bool t (fun _ => True) := by
  intro fuel cs x h
  obtain ⟨b, e, _⟩ := DataW.trod_bool ht h
  exact ⟨b, e, trivial⟩
theorem opens_slice {α : Type} {d : Kd α} {ok : α → Prop} {t e : TypeId} (ht : P.underlying t = some (.slice e)) (hsz : P.cellsOf e = d.sz) (he : Opens enc P w base spare held d e ok) :
    Opens enc P w base spare held (Kd.slice e d) t (fun l => l.length ≤ maxLen ∧ ∀ x ∈ l, ok x) := by
  intro fuel cs x h
  rcases open_slice ht h with ⟨rfl, _⟩ | ⟨a, len, cap, m, n, D, Pl, rfl, _, hl, hm, hmm, _, hi⟩
  · exact ⟨[], ⟨none, 0, rfl, Nat.le_refl _, rfl, by simp, fun h => absurd h (by simp)⟩, by simp, by simp⟩
  · have hlm : len ≤ m := by rw [hmm]; split <;> omega
    have hel : ∀ i : Fin len, ∃ p : α, ok p ∧ ∃ c : List Value, c.length = d.sz ∧ d.K w p c ∧ ∀ j u, c[j]? = some u → w.cell? (a.add (i.val * d.sz + j)) = some u := by
      intro i
      obtain ⟨cs', hc, ht'⟩ := hi i.val (Nat.lt_of_lt_of_le i.isLt hlm)
      obtain ⟨p, hp, hok⟩ := he _ _ _ ht'
      obtain ⟨_, hcl, hat⟩ := World.cells?_some hc
      refine ⟨p, hok, cs', by rw [hcl, hsz], hp, fun j u hu => ?_⟩
      have hj : j < cs'.length := (List.getElem?_eq_some_iff.1 hu).1
      have := hat j (by omega)
      rw [← hsz, ← Go.Deep.add_add, this, hu]
    have hlen : (List.ofFn fun i : Fin len => Classical.choose (hel i)).length = len := List.length_ofFn
    refine ⟨List.ofFn fun i : Fin len => Classical.choose (hel i), ⟨some a, cap, by rw [hlen], by omega, rfl, ?_, ?_⟩, by omega, ?_⟩
    · rw [hlen]; exact Nat.le_trans hl hm
    · intro _
      refine ⟨a, rfl, fun j p hp => ?_⟩
      obtain ⟨hj, hp'⟩ := List.getElem?_eq_some_iff.1 hp
      rw [List.getElem_ofFn] at hp'
      obtain ⟨c, h1, h2, h3⟩ := (Classical.choose_spec (hel ⟨j, by omega⟩)).2
      rw [hp'] at h2
      exact ⟨c, h1, h2, h3⟩
    · intro x hx
      obtain ⟨j, hj, rfl⟩ := List.getElem_of_mem hx
      rw [List.getElem_ofFn]
      exact (Classical.choose_spec (hel ⟨j, by omega⟩)).1
theorem opens_iso {α β : Type} {d : Kd α} {f : β → α} {g : α → β} (hfg : ∀ x, f (g x) = x) {t : TypeId} {ok : α → Prop} (h : Opens enc P w base spare held d t ok) : Opens enc P w base spare held (Kd.iso d f) t (fun y => ok (f y)) := by
  intro fuel cs x hx
  obtain ⟨a, h1, h2⟩ := h fuel cs x hx
  refine ⟨g a, ?_, by show ok (f (g a)); rw [hfg]; exact h2⟩
  show d.K w (f (g a)) cs
  rw [hfg]
  exact h1
/-- The fields of a record from a place on. -/
def OpensF {α : Type} (enc : TypeId × Value → H) (P : Program) (w : World) (base : Nat) (spare : Nat → Bool) (held : Bool) (d : Kd α) (off : Nat) (fs : List Field) (ok : α → Prop) : Prop :=
  ∀ n (cs : List Value), cs.length = off + d.sz → (∀ f ∈ fs, ∃ y, DataW.trod enc P w base spare held n f.type ((cs.drop f.offset).take (P.cellsOf f.type)) = some y) → ∃ a, d.K w a (cs.drop off) ∧ ok a
theorem opensF_last {α : Type} {d : Kd α} {f : Field} {o : Nat} {ty : TypeId} {ok : α → Prop} (h : Opens enc P w base spare held d ty ok) (hsz : P.cellsOf ty = d.sz) (ho : f.offset = o) (hty : f.type = ty) : OpensF enc P w base spare held d o [f] ok := by
  subst ho hty
  intro n cs hl hf
  obtain ⟨y, hy⟩ := hf f (by simp)
  rw [List.take_of_length_le (by rw [List.length_drop]; omega)] at hy
  exact h _ _ _ hy
theorem opensF_cons {α β : Type} {d : Kd α} {d' : Kd β} {f : Field} {fs : List Field} {o off : Nat} {ty : TypeId} {ok : α → Prop} {ok' : β → Prop} (h : Opens enc P w base spare held d ty ok) (h' : OpensF enc P w base spare held d' off fs ok') (hsz : P.cellsOf ty = d.sz) (ho : f.offset = o) (hty : f.type = ty) (hoff : off = o + d.sz) :
    OpensF enc P w base spare held (Kd.pair d d') o (f :: fs) (fun x => ok x.1 ∧ ok' x.2) := by
  subst ho hty
  intro n cs hl hf
  obtain ⟨y, hy⟩ := hf f (by simp)
  obtain ⟨a, ha, hoka⟩ := h _ _ _ hy
  have hl' : cs.length = off + d'.sz := by rw [hl, hoff]; show _ + (d.sz + d'.sz) = _; omega
  obtain ⟨b, hb, hokb⟩ := h' n cs hl' (fun g hg => hf g (by simp [hg]))
  refine ⟨(a, b), ⟨_, _, ?_, ha, hb⟩, hoka, hokb⟩
  rw [hsz, hoff, ← List.drop_drop, List.take_append_drop]
theorem opens_struct {α : Type} {d : Kd α} {fs : Array Field} {t : TypeId} {ok : α → Prop} (ht : P.underlying t = some (.struct fs)) (hC : P.cellsOf t = d.sz) (h : OpensF enc P w base spare held d 0 fs.toList ok) : Opens enc P w base spare held d t ok := by
  intro fuel cs x hx
  obtain ⟨xs, n, _, _, hl, hlen, hf⟩ := DataW.trod_struct ht hx
  have := h n cs (by rw [hl, hC]; omega) (by
    intro f hm
    obtain ⟨i, hi, rfl⟩ := List.getElem_of_mem hm
    have hi' : i < fs.size := by simpa using hi
    have := hf i _ (by rw [Array.getElem?_eq_getElem hi'])
    rw [List.getElem?_eq_getElem (by omega)] at this
    exact ⟨_, by simpa using this⟩)
  simpa using this
end Go.Proofs.Ytfoekmfpcahmiaa.Opens
