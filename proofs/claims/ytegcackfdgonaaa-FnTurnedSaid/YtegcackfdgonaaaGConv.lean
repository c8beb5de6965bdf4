/- A conversion of a text to bytes, as a step of a walk: a new row that holds the text's bytes. Conditions beyond the step's own form: none. -/
import Derived.Test.YtegcackfdgonaaaWWords
import Derived.Lib.ConvBytes
import Derived.Lib.AtoiErrMem
namespace Go.Proofs.Ytegcackfdgonaaa.G
open Go Go.RowKit Go.Proofs.YtegcackfdgonaaaW.PrintWords
section
variable {P : Program} {ops : Array Oper} {rest : List Oper} {o : Oper} {a : Act} {Q : Exit → Act → World → Prop}
theorem bytes_frozen (w : World) (e : TypeId) (s : ByteArray) (j : Nat) (hj : j < s.size) : (Lib.bytesWorld w e s).frozen? ⟨w.heap.size, j, none⟩ = false := by
  unfold World.frozen?
  rw [show (⟨w.heap.size, j, none⟩ : Addr).block = w.heap.size from rfl, Lib.bytesWorld_at_new]
  have h : s.size ≤ (Lib.bytesCells w e s).size := by
    unfold Lib.bytesCells
    simp
  simp only [Bool.and_eq_false_iff, decide_eq_false_iff_not]
  left
  omega
theorem conv_event {W : World} (hgd : o.guard = none) {N : Tmp} (_hd : o.dst = some N) {s : ByteArray} {src dst e : TypeId} {x : Operand} {u : TypeDesc}
    (ho : o.op = .convert src dst x) (hx : a.eval x = .string s) (hs : P.underlying src = some u) (hd : P.underlying dst = some (.slice e)) (he : P.underlying e = some (.int .u8))
    (h : ∀ g c w1, g = W.heap.size → (∀ j, j < s.size → w1.cell? ⟨g, j, none⟩ = some (.int .u8 (((s.data.toList.getD j 0).toNat : Nat) : Int))) → (∀ j, j < s.size → w1.frozen? ⟨g, j, none⟩ = false) → Below W.heap.size W w1 → wpList P ops Q rest (a.put o.dst (.slice (some ⟨g, 0, none⟩) s.size c)) w1) :
    wpList P ops Q (o :: rest) a W := by
  refine Kd.event_run hgd ?_ (h W.heap.size (grownCap W s.size 0 e) (Lib.bytesWorld W e s) rfl (fun j hj => Lib.bytesWorld_cell W e s j hj) (fun j hj => bytes_frozen W e s j hj) (Lib.bytesWorld_below W e s))
  simp [execOp, ho, hx, Lib.run_convert_string_bytes W src dst e s hs hd he]
end
/-- The numbers of a text's bytes; a text whose one byte is another. -/
def byteNums (s : ByteArray) : List Int := s.data.toList.map fun b => (b.toNat : Int)
def turnT (t : ByteArray) (i : Nat) (v : Int) : ByteArray := strOfNums ((byteNums t).set i v)
theorem turn_reads {w : World} {g : Nat} {t : ByteArray} {i : Nat} {v : Int} (hi : i < t.size) (ht : t.size ≤ 9223372036854775807)
    (h : ∀ j, j < t.size → w.cell? ⟨g, j, none⟩ = some (.int .u8 (((t.data.toList.getD j 0).toNat : Nat) : Int))) :
    ReadsInt (w.setCell ⟨g, i, none⟩ (.int .u8 v)) .u8 (some ⟨g, 0, none⟩) t.size ((byteNums t).set i v) := by
  have hl : (byteNums t).length = t.size := by unfold byteNums; rw [List.length_map]; rfl
  refine ⟨by rw [List.length_set, hl], ht, fun _ => ⟨_, rfl, fun j hj => ?_⟩⟩
  have ha : (⟨g, 0, none⟩ : Addr).add j = ⟨g, j, none⟩ := by unfold Addr.add; split <;> simp_all
  rw [ha]
  by_cases hij : j = i
  · subst hij
    rw [World.cell?_setCell_same _ _ _ (h j hj), List.getD_eq_getElem?_getD, List.getElem?_set_self (by omega)]
    rfl
  · rw [World.cell?_setCell_other _ _ _ _ (fun e => hij (by injection e with _ e2 _; exact e2.symm)), h j hj]
    have hlt : j < t.data.toList.length := hj
    have e : ((byteNums t).set i v).getD j 0 = (((t.data.toList.getD j 0).toNat : Nat) : Int) := by
      rw [List.getD_eq_getElem?_getD, List.getElem?_set_ne (Ne.symm hij)]
      unfold byteNums
      rw [List.getElem?_map, List.getD_eq_getElem?_getD, List.getElem?_eq_getElem hlt]
      rfl
    rw [e]
end Go.Proofs.Ytegcackfdgonaaa.G
