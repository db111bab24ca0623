-- Printed out of the translation by the kit print (pr.sh). Not trusted: checked by Lean.
import Derived.Test.YtmcidodpnhkdfaaDoorPQx0
import Derived.Test.YtmcidodpnhkdfaaDoorParseSpec
namespace Go.Proofs.YtmcidodpnhkdfaaDoor.PQ
open Go.RowKit Go.Proofs.YtmcidodpnhkdfaaDoorW.PrintWords Go.Proofs.YtmcidodpnhkdfaaDoorW.PrintLast Go.Proofs.YtmcidodpnhkdfaaDoorW.PrintMore
attribute [local go_sem] max2_int min2_int max_two min_two max_three min_three max_four min_four   -- for this text's walks alone
set_option linter.unusedVariables false
set_option linter.unusedSimpArgs false

/-- A state of type 66 at block g of W; what its slices lead to came in by w0. -/
def IsS66 (PA : Option Addr) (pc : Nat) (w0 W : World) (g : Nat) (f0 : ByteArray) (f1 : Int) (f2 : List (S72)) : Prop := W.heap[g]? = some (.cells #[.string f0, .int .i64 f1, .slice PA f2.length pc] 66 (0, 0)) ∧ True ∧ Kd.C k72 w0 PA f2.length f2
theorem IsS66.grown {PA : Option Addr} {pc : Nat} {w0 W : World} {g : Nat} {f0 : ByteArray} {f1 : Int} {f2 : List (S72)} {W1 : World} {row : Option Nat} (h : IsS66 PA pc w0 W g f0 f1 f2) (hw : W.grownBy W1 row) (hne : some g ≠ row) : IsS66 PA pc w0 W1 g f0 f1 f2 := by
  obtain ⟨hb, hg, hr2⟩ := h
  exact ⟨blk_grown hb hw hne, hg, hr2⟩
theorem IsS66.own_neN {PA : Option Addr} {pc : Nat} {w0 W : World} {g : Nat} {f0 : ByteArray} {f1 : Int} {f2 : List (S72)} {α : Type} {d : Kd α} {e : Nat} {base : Nat} {ok : Nat → Prop} {v : Value} {xs : List α} (h : IsS66 PA pc w0 W g f0 f1 f2) (ho : Kd.N d e W base ok v xs) (ht : e ≠ 66) : some g ≠ v.ownBlock := by
  obtain ⟨hb, hg, hr2⟩ := h
  exact Kd.N_ne ho hb ht
theorem IsS66.fresh {PA : Option Addr} {pc : Nat} {w0 W : World} {g : Nat} {f0 : ByteArray} {f1 : Int} {f2 : List (S72)} (h : IsS66 PA pc w0 W g f0 f1 f2) : ∀ k, W.heap.size ≤ k → k ≠ g := by
  obtain ⟨hb, hg, hr2⟩ := h
  exact Kd.freshB hb
theorem IsS66.kept {PA : Option Addr} {pc : Nat} {w0 W : World} {g : Nat} {f0 : ByteArray} {f1 : Int} {f2 : List (S72)} {W1 : World} {S : Nat → Prop} (h : IsS66 PA pc w0 W g f0 f1 f2) (hk : Kept W W1 S) (hne : ¬ S g) : IsS66 PA pc w0 W1 g f0 f1 f2 := by
  obtain ⟨hb, hg, hr2⟩ := h
  exact ⟨blk_kept hb hk hne, hg, hr2⟩
theorem IsS66.below {PA : Option Addr} {pc : Nat} {w0 W : World} {g : Nat} {f0 : ByteArray} {f1 : Int} {f2 : List (S72)} {W1 : World} (h : IsS66 PA pc w0 W g f0 f1 f2) (hw : Below W.heap.size W W1) : IsS66 PA pc w0 W1 g f0 f1 f2 := h.grown (grown_of_below hw none) (by simp)
theorem IsS66.alloc {PA : Option Addr} {pc : Nat} {w0 W : World} {g : Nat} {f0 : ByteArray} {f1 : Int} {f2 : List (S72)} (h : IsS66 PA pc w0 W g f0 f1 f2) (o : Obj) : IsS66 PA pc w0 (W.alloc o) g f0 f1 f2 := h.below (below_alloc (Below.refl _ _) o)
theorem IsS66.drewN {PA : Option Addr} {pc : Nat} {w0 W : World} {g : Nat} {f0 : ByteArray} {f1 : Int} {f2 : List (S72)} (h : IsS66 PA pc w0 W g f0 f1 f2) (m : Nat) : IsS66 PA pc w0 (W.drewN m) g f0 f1 f2 := h
theorem IsS66.drew {PA : Option Addr} {pc : Nat} {w0 W : World} {g : Nat} {f0 : ByteArray} {f1 : Int} {f2 : List (S72)} (h : IsS66 PA pc w0 W g f0 f1 f2) : IsS66 PA pc w0 W.drew g f0 f1 f2 := h
theorem IsS66.at_ {PA : Option Addr} {pc : Nat} {w0 W : World} {g : Nat} {f0 : ByteArray} {f1 : Int} {f2 : List (S72)} {w' : World} {m : Nat} (hq : W.drewN m = w') (h : IsS66 PA pc w0 W g f0 f1 f2) : IsS66 PA pc w0 w' g f0 f1 f2 := by subst hq; exact IsS66.drewN h m
theorem IsS66.apart {PA : Option Addr} {pc : Nat} {w0 W : World} {g : Nat} {f0 : ByteArray} {f1 : Int} {f2 : List (S72)} {α : Type} {d : Kd α} {e : Nat} {base : Nat} {ok : Nat → Prop} {v : Value} {xs : List α} (h : IsS66 PA pc w0 W g f0 f1 f2) (ho : d.R e W base ok v xs) (ht : ∀ q, q ∈ e :: d.E → q ≠ 66) : d.R e W base (fun k => ok k ∧ k ≠ g) v xs := by
  obtain ⟨hb, hg, hr2⟩ := h
  exact Kd.R_types ho hb ht
theorem IsS66.own_ne {PA : Option Addr} {pc : Nat} {w0 W : World} {g : Nat} {f0 : ByteArray} {f1 : Int} {f2 : List (S72)} {α : Type} {d : Kd α} {e : Nat} {base : Nat} {ok : Nat → Prop} {v : Value} {xs : List α} (h : IsS66 PA pc w0 W g f0 f1 f2) (ho : d.R e W base ok v xs) (ht : e ≠ 66) : some g ≠ v.ownBlock := by
  obtain ⟨hb, hg, hr2⟩ := h
  exact Kd.R_ne ho hb ht
theorem IsS66.apartQ {PA : Option Addr} {pc : Nat} {w0 W : World} {g : Nat} {f0 : ByteArray} {f1 : Int} {f2 : List (S72)} {α : Type} {d : Kd α} {e : Nat} {base : Nat} {ok : Nat → Prop} {v : Value} {xs : List α} (h : IsS66 PA pc w0 W g f0 f1 f2) (ho : d.Q e W base ok v xs) (ht : ∀ q, q ∈ e :: d.E → q ≠ 66) : d.Q e W base (fun k => ok k ∧ k ≠ g) v xs := by
  obtain ⟨hb, hg, hr2⟩ := h
  exact Kd.Q_types ho hb ht
theorem IsS66.own_neQ {PA : Option Addr} {pc : Nat} {w0 W : World} {g : Nat} {f0 : ByteArray} {f1 : Int} {f2 : List (S72)} {α : Type} {d : Kd α} {e : Nat} {base : Nat} {ok : Nat → Prop} {v : Value} {xs : List α} (h : IsS66 PA pc w0 W g f0 f1 f2) (ho : d.Q e W base ok v xs) (ht : e ≠ 66) : some g ≠ v.ownBlock := by
  obtain ⟨hb, hg, hr2⟩ := h
  exact Kd.Q_ne ho hb ht
theorem IsS66.apartS {PA : Option Addr} {pc : Nat} {w0 W : World} {g : Nat} {f0 : ByteArray} {f1 : Int} {f2 : List (S72)} {α : Type} {d : Kd α} {e : Nat} {base : Nat} {ok : Nat → Prop} {v : Value} {xs : List α} (h : IsS66 PA pc w0 W g f0 f1 f2) (ho : d.S e W base ok v xs) (ht : ∀ q, q ∈ e :: d.E → q ≠ 66) : d.S e W base (fun k => ok k ∧ k ≠ g) v xs := by
  obtain ⟨hb, hg, hr2⟩ := h
  exact Kd.S_types ho hb ht
theorem IsS66.own_neS {PA : Option Addr} {pc : Nat} {w0 W : World} {g : Nat} {f0 : ByteArray} {f1 : Int} {f2 : List (S72)} {α : Type} {d : Kd α} {e : Nat} {base : Nat} {ok : Nat → Prop} {v : Value} {xs : List α} (h : IsS66 PA pc w0 W g f0 f1 f2) (ho : d.S e W base ok v xs) (ht : e ≠ 66) : some g ≠ v.ownBlock := by
  obtain ⟨hb, hg, hr2⟩ := h
  exact Kd.S_ne ho hb ht
theorem IsS66.lt {PA : Option Addr} {pc : Nat} {w0 W : World} {g : Nat} {f0 : ByteArray} {f1 : Int} {f2 : List (S72)} (h : IsS66 PA pc w0 W g f0 f1 f2) : g < W.heap.size := by
  obtain ⟨hb, hg, hr2⟩ := h
  exact blk_lt hb
theorem IsS66.ne_blk {PA : Option Addr} {pc : Nat} {w0 W : World} {g : Nat} {f0 : ByteArray} {f1 : Int} {f2 : List (S72)} {a : Nat} {cs : Array Value} {t : TypeId} {fr : Nat × Nat} (h : IsS66 PA pc w0 W g f0 f1 f2) (hb2 : W.heap[a]? = some (.cells cs t fr)) (ht : t ≠ 66) : g ≠ a := by
  obtain ⟨hb, hg, hr2⟩ := h
  rintro rfl
  rw [hb] at hb2
  injection hb2 with hb2
  injection hb2 with _ ht2
  exact ht ht2.symm
theorem IsS66.far {PA : Option Addr} {pc : Nat} {w0 W : World} {g : Nat} {f0 : ByteArray} {f1 : Int} {f2 : List (S72)} {p : Addr} (h : IsS66 PA pc w0 W g f0 f1 f2) (hne : g ≠ p.block) (u : Value) : IsS66 PA pc w0 (W.setCell p u) g f0 f1 f2 := by
  obtain ⟨hb, hg, hr2⟩ := h
  exact ⟨blk_far hb hne u, hg, hr2⟩
theorem cellS66_0 {W : World} {g : Nat} {A2 : Option Addr} {c2 : Nat} {f0 : ByteArray} {f1 : Int} {f2 : List (S72)} (h : W.heap[g]? = some (.cells #[.string f0, .int .i64 f1, .slice A2 f2.length c2] 66 (0, 0))) : W.cell? ⟨g, 0, none⟩ = some (.string f0) := (blk_cell h 0).trans rfl
theorem IsS66.set_0 {PA : Option Addr} {pc : Nat} {w0 W : World} {g : Nat} {f0 : ByteArray} {f1 : Int} {f2 : List (S72)} (h : IsS66 PA pc w0 W g f0 f1 f2) (x : ByteArray) : IsS66 PA pc w0 (W.setCell ⟨g, 0, none⟩ (.string x)) g x f1 f2 := by
  obtain ⟨hb, hg, hr2⟩ := h
  exact ⟨by simpa using blk_set hb 0 (.string x), hg, hr2⟩
theorem cellS66_1 {W : World} {g : Nat} {A2 : Option Addr} {c2 : Nat} {f0 : ByteArray} {f1 : Int} {f2 : List (S72)} (h : W.heap[g]? = some (.cells #[.string f0, .int .i64 f1, .slice A2 f2.length c2] 66 (0, 0))) : W.cell? ⟨g, 1, none⟩ = some (.int .i64 f1) := (blk_cell h 1).trans rfl
theorem IsS66.set_1 {PA : Option Addr} {pc : Nat} {w0 W : World} {g : Nat} {f0 : ByteArray} {f1 : Int} {f2 : List (S72)} (h : IsS66 PA pc w0 W g f0 f1 f2) (x : Int) : IsS66 PA pc w0 (W.setCell ⟨g, 1, none⟩ (.int .i64 x)) g f0 x f2 := by
  obtain ⟨hb, hg, hr2⟩ := h
  exact ⟨by simpa using blk_set hb 1 (.int .i64 x), hg, hr2⟩
theorem cellS66_2 {W : World} {g : Nat} {A2 : Option Addr} {c2 : Nat} {f0 : ByteArray} {f1 : Int} {f2 : List (S72)} (h : W.heap[g]? = some (.cells #[.string f0, .int .i64 f1, .slice A2 f2.length c2] 66 (0, 0))) : W.cell? ⟨g, 2, none⟩ = some (.slice A2 f2.length c2) := (blk_cell h 2).trans rfl


end Go.Proofs.YtmcidodpnhkdfaaDoor.PQ
