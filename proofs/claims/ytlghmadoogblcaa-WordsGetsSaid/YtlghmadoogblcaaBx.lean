/- Small words for walks by hand: a block of cells that is known whole, through calls, stores and new blocks. -/
import Derived.Test.YtlghmadoogblcaaWWords
namespace Go.Proofs.Ytlghmadoogblcaa.Bx
open Go.RowKit Go.Proofs.YtlghmadoogblcaaW.PrintWords
def Bx (w : World) (b : Nat) (vs : Array Value) : Prop := ∃ ty, w.heap[b]? = some (.cells vs ty (0, 0))
theorem Bx.lt {w : World} {b : Nat} {vs : Array Value} (h : Bx w b vs) : b < w.heap.size := by
  obtain ⟨_, h⟩ := h
  exact blk_lt h
theorem Bx.c {w : World} {b : Nat} {vs : Array Value} (h : Bx w b vs) (j : Nat) (v : Value) (e : vs[j]? = some v) : w.cell? ⟨b, j, none⟩ = some v := by
  obtain ⟨_, h⟩ := h
  exact (blk_cell h j).trans e
theorem Bx.fz {w : World} {b : Nat} {vs : Array Value} (h : Bx w b vs) (j : Nat) : w.frozen? ⟨b, j, none⟩ = false := by
  obtain ⟨_, h⟩ := h
  exact blk_frozen h j
theorem Bx.on {w w1 : World} {b : Nat} {vs : Array Value} (h : Bx w b vs) (hb : Below w.heap.size w w1) : Bx w1 b vs := by
  have l := h.lt
  obtain ⟨t, h⟩ := h
  exact ⟨t, (hb.block b l).trans h⟩
theorem Bx.alloc {w : World} {b : Nat} {vs : Array Value} (h : Bx w b vs) (o : Obj) : Bx (w.alloc o) b vs := h.on (below_alloc (Below.refl _ _) o)
theorem Bx.drewN {w : World} {b : Nat} {vs : Array Value} (h : Bx w b vs) (n : Nat) : Bx (w.drewN n) b vs := h.on (pw_below_drewN (Below.refl _ _) n)
theorem Bx.new (w : World) (vs : Array Value) (t : TypeId) : Bx (w.alloc (.cells vs t)) w.heap.size vs := ⟨t, blk_new w _⟩
theorem Bx.new2 (w : World) (o : Obj) (vs : Array Value) (t : TypeId) : Bx ((w.alloc o).alloc (.cells vs t)) (w.heap.size + 1) vs := by
  have h := Bx.new (w.alloc o) vs t
  rwa [show (w.alloc o).heap.size = w.heap.size + 1 by simp] at h
theorem Bx.set {w : World} {b : Nat} {vs vs' : Array Value} (h : Bx w b vs) (j : Nat) (v : Value) (e : vs.setIfInBounds j v = vs') : Bx (w.setCell ⟨b, j, none⟩ v) b vs' := by
  obtain ⟨t, h⟩ := h
  exact ⟨t, blk_put h j v e⟩
theorem Bx.far {w : World} {b : Nat} {vs : Array Value} (h : Bx w b vs) {p : Addr} (hn : b ≠ p.block) (v : Value) : Bx (w.setCell p v) b vs := by
  obtain ⟨t, h⟩ := h
  exact ⟨t, blk_far h hn v⟩
end Go.Proofs.Ytlghmadoogblcaa.Bx
