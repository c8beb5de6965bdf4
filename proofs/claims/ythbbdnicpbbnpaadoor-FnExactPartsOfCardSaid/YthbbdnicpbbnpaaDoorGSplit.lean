/- strings.Split at a separator of one byte as a given function: the pieces in a row of their own. Conditions: in the function itself. -/
import Derived.Test.YthbbdnicpbbnpaaDoorWWords
import Derived.Test.YthbbdnicpbbnpaaDoorSplitOne
import Derived.Test.YthbbdnicpbbnpaaDoorShelf
namespace Go.Proofs.YthbbdnicpbbnpaaDoor.G
open Go Go.RowKit Go.Proofs.YthbbdnicpbbnpaaDoorW.PrintWords
def strings_Split (s sep : ByteArray) : Option (List ByteArray) := if s.size < 4294967281 ∧ sep.size = 1 then some (Lib.splitB sep 0 (Lib.countB s sep) s) else none
theorem strings_Split_calls (s sep : ByteArray) (r : List ByteArray) (w : World) (h : strings_Split s sep = some r) :
    Calls Tryd.prog 10 #[.string s, .string sep] w fun e w' => ∃ v0_ : Value, e = .returned (v0_) ∧ Kd.R Kd.string 9 w' w.heap.size (fun _ => True) v0_ r ∧ Below w.heap.size w w' := by
  unfold strings_Split at h
  split at h
  · rename_i hc
    obtain rfl := Option.some.inj h
    obtain ⟨c, rfl⟩ := Lib.one_byte sep hc.2
    have h1 : 1 ≤ (⟨#[c]⟩ : ByteArray).size := Nat.le_refl 1
    have hle := Lib.countB_le ⟨#[c]⟩ h1 s.size s (Nat.le_refl _)
    have hlen := Lib.splitB_all ⟨#[c]⟩ h1 0 _ s rfl
    have hs := hc.1
    refine (SplitOne.split_one Tryd.lays146 (by kernel_rfl) s c w hc.1).mono fun e w' ⟨he, hw⟩ => ⟨_, he, ?_, ?_⟩
    · rw [hw, ← hlen]
      refine Kd.R_of_own ?_ (fun k hk => trivial)
      have h2 := World.ownsRow_lit (base := w.heap.size) (e := 9) (size := 1) w ((Lib.splitB ⟨#[c]⟩ 0 (Lib.countB s ⟨#[c]⟩) s).map Value.string).toArray (Lib.splitB ⟨#[c]⟩ 0 (Lib.countB s ⟨#[c]⟩) s).length (Nat.le_refl _) (by rw [hlen]; unfold maxLen; omega) (by simp)
      exact h2
    · rw [hw]
      exact below_alloc (Below.refl _ _) _
  · cases h
end Go.Proofs.YthbbdnicpbbnpaaDoor.G
