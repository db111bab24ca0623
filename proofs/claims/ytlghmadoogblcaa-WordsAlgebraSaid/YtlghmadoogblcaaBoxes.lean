import Derived.Test.YtlghmadoogblcaaPWx0
namespace Go.Proofs.Ytlghmadoogblcaa.Boxes
open Go.RowKit Go.Proofs.YtlghmadoogblcaaW.PrintWords Go.Proofs.YtlghmadoogblcaaW.PrintLast Go.Proofs.YtlghmadoogblcaaW.PrintMore Go.Proofs.Ytlghmadoogblcaa.PW
set_option linter.unusedVariables false

/-- A store of a struct of two cells into a box that came behind W0. -/
theorem store31 {P : Program} {ops : Array Oper} {rest : List Oper} {o : Oper} {a : Act} {Q : Exit → Act → World → Prop} {W0 W : World} {x y c0 c1 : Value} {g : Nat} {t : TypeId} (hgd : o.guard = none) (hd : o.dst = none)
    (hrun : (execOp a.eval o).run P W = .ok .skip ((W.setCell ⟨g, 0, none⟩ x).setCell ⟨g, 1, none⟩ y)) (hB : Below W0.heap.size W0 W) (hg : W0.heap.size ≤ g) (hb : W.heap[g]? = some (.cells #[c0, c1] t (0, 0)))
    (h : ∀ w2, w2.heap[g]? = some (.cells #[x, y] t (0, 0)) → (∀ g', g' ≠ g → w2.heap[g']? = W.heap[g']?) → Below W0.heap.size W0 w2 → wpList P ops Q rest a w2) : wpList P ops Q (o :: rest) a W := by
  refine wpList_plain hgd fun K hK => ?_
  have hp : a.put o.dst undef = a := by rw [hd]; rfl
  have key := hK a _ (h _ (blk_put (blk_put hb 0 x rfl) 1 y rfl) (fun g' hne => (Below.heap_setCell _ _ _ _ hne).trans (Below.heap_setCell _ _ _ _ hne)) (below_set (below_set hB hg) hg))
  unfold Oper.wp
  rw [hrun]
  rw [← hp] at key
  exact key


end Go.Proofs.Ytlghmadoogblcaa.Boxes
