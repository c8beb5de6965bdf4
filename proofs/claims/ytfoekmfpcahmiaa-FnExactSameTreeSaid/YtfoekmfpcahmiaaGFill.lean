/- A new box and the copy of a record into it, as one step of a walk. Conditions beyond the step's own form: none. -/
import Derived.Test.YtfoekmfpcahmiaaWMore
import Derived.Test.YtfoekmfpcahmiaaWLast
import Derived.Deep.WholeRow
namespace Go.Proofs.Ytfoekmfpcahmiaa.G
open Go Go.RowKit Go.Proofs.YtfoekmfpcahmiaaW.PrintWords Go.Proofs.YtfoekmfpcahmiaaW.PrintLast Go.Proofs.YtfoekmfpcahmiaaW.PrintMore
section
variable {P : Program} {ops : Array Oper} {Q : Exit → Act → World → Prop} {rest : List Oper}
theorem filled_event {o o2 : Oper} {a : Act} {W : World} (hgd : o.guard = none) (hgd2 : o2.guard = none) {N : Tmp} (_hd : o.dst = some N) (hd2 : o2.dst = none) {cs cs' : Array Value} {t : TypeId} {x : Operand}
    (hrun : (execOp a.eval o).run P W = .ok (.value (.pointer (some ⟨W.heap.size, 0, none⟩))) (W.alloc (.cells cs t (0, 0))))
    (ho2 : o2.op = .store t (.tmp N) x) (hx : ∀ p, (a.put o.dst p).eval x = .agg cs') (hN : ∀ p, (a.put o.dst p).eval (.tmp N) = p)
    (hi : (P.info? t).map (·.size) = some cs'.size) (hcs : cs.size = cs'.size) (h1 : cs'.all (·.oneCell') = true)
    (h : ∀ g, g = W.heap.size → ∀ w1, w1.heap[g]? = some (.cells cs' t (0, 0)) → Below W.heap.size W w1 → wpList P ops Q rest (a.put o.dst (.pointer (some ⟨g, 0, none⟩))) w1) : wpList P ops Q (o :: o2 :: rest) a W := by
  refine Kd.event_run hgd hrun ?_
  refine store_event (t := t) (p := N) (v := x) (w1 := W.alloc (.cells cs' t (0, 0))) hgd2 ho2 hd2 ?_ ?_
  · unfold execOp
    rw [ho2]
    simp only [hx, hN]
    have := run_storeAt_new (P := P) W t cs cs' hi hcs h1
    simp [this]
  · rintro w' rfl
    exact h _ rfl _ (blk_new W _) (below_alloc (Below.refl _ _) _)
end
end Go.Proofs.Ytfoekmfpcahmiaa.G
