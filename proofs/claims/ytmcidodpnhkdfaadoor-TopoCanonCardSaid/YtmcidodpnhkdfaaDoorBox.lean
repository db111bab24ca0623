/- Small words for walks by hand: a block of five cells (a topology) that is known whole, through calls and new blocks. -/
import Derived.Test.YtmcidodpnhkdfaaDoorWords
import Derived.Lib.Hide
namespace Go.Proofs.YtmcidodpnhkdfaaDoor.Box
open Go.RowKit Go.Proofs.YtmcidodpnhkdfaaDoorW.PrintWords
theorem chain {w w1 w2 : World} (h : Below w.heap.size w w1) (k : Below w1.heap.size w1 w2) : Below w.heap.size w w2 := below_then h h.size k
theorem chain' {w w1 w2 : World} {o : Obj} (h : Below w.heap.size w w1) (k : Below (w1.alloc o).heap.size (w1.alloc o) w2) : Below w.heap.size w w2 := chain (below_alloc h o) k
structure Box (w : World) (b : Nat) (v0 v1 v2 v3 v4 : Value) : Prop where
  lt : b < w.heap.size
  c0 : w.cell? ⟨b, 0, none⟩ = some v0
  c1 : w.cell? ⟨b, 1, none⟩ = some v1
  c2 : w.cell? ⟨b, 2, none⟩ = some v2
  c3 : w.cell? ⟨b, 3, none⟩ = some v3
  c4 : w.cell? ⟨b, 4, none⟩ = some v4
theorem Box.on {w w1 : World} {b : Nat} {v0 v1 v2 v3 v4 : Value} (h : Box w b v0 v1 v2 v3 v4) (hb : Below w.heap.size w w1) : Box w1 b v0 v1 v2 v3 v4 :=
  ⟨Nat.lt_of_lt_of_le h.lt hb.size, (hb.cell (p := ⟨b, 0, none⟩) h.lt).trans h.c0, (hb.cell (p := ⟨b, 1, none⟩) h.lt).trans h.c1, (hb.cell (p := ⟨b, 2, none⟩) h.lt).trans h.c2, (hb.cell (p := ⟨b, 3, none⟩) h.lt).trans h.c3, (hb.cell (p := ⟨b, 4, none⟩) h.lt).trans h.c4⟩
theorem Box.alloc {w : World} {b : Nat} {v0 v1 v2 v3 v4 : Value} (h : Box w b v0 v1 v2 v3 v4) (o : Obj) : Box (w.alloc o) b v0 v1 v2 v3 v4 :=
  h.on (below_alloc (Below.refl _ _) o)
theorem Box.drewN {w : World} {b : Nat} {v0 v1 v2 v3 v4 : Value} (h : Box w b v0 v1 v2 v3 v4) (n : Nat) : Box (w.drewN n) b v0 v1 v2 v3 v4 :=
  h.on (pw_below_drewN (Below.refl _ _) n)
theorem Box.new (w : World) (v0 v1 v2 v3 v4 : Value) (t : TypeId) : Box (w.alloc (.cells #[v0, v1, v2, v3, v4] t)) w.heap.size v0 v1 v2 v3 v4 :=
  ⟨by simp, World.cell?_alloc_new .., World.cell?_alloc_new .., World.cell?_alloc_new .., World.cell?_alloc_new .., World.cell?_alloc_new ..⟩
end Go.Proofs.YtmcidodpnhkdfaaDoor.Box
