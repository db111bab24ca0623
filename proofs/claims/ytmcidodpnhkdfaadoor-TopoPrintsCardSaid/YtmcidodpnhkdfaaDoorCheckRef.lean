/- Plain laws on topologies: what may be, by the reference's order of tests. Over the printed functions alone. -/
import Derived.Test.YtmcidodpnhkdfaaDoorCheckProg
import Derived.Test.YtmcidodpnhkdfaaDoorPRx
namespace Go.Proofs.YtmcidodpnhkdfaaDoor.CheckRef
open Go.RowKit Go.Proofs.YtmcidodpnhkdfaaDoorW.PrintWords Go.Proofs.YtmcidodpnhkdfaaDoor.PR Go.Proofs.YtmcidodpnhkdfaaDoor.CheckPlain
set_option linter.unusedVariables false
set_option linter.unusedSimpArgs false
section
variable (k w h u s : Int)
theorem r4 (q : Nat) (b : Bool) : vivariumref04_Check.j4 (q + 1) b k w h u s = some (if b = true then 43 else if k = 2 ∧ (s = 0 ∨ w = 0 ∨ h = 0) then 43 else 0) := by
  rw [vivariumref04_Check.j4]
  grind
theorem r3 (hw : 0 ≤ w) (hw' : w ≤ 65536) (hh : 0 ≤ h) (hh' : h ≤ 65536) (q : Nat) (b : Bool) : vivariumref04_Check.j3 (q + 2) b k w h u s = some (if b = true then 44 else if u = 0 then (if s = 0 then 0 else 43) else lastR k w h u s) := by
  have e1 := neg_in hw hw'
  have e2 := neg_in hh hh'
  rw [vivariumref04_Check.j3]
  simp only [r4, vivariumref04_side.f, lastR]
  grind
theorem r2 (hw : 0 ≤ w) (hw' : w ≤ 65536) (hh : 0 ≤ h) (hh' : h ≤ 65536) (q : Nat) (b : Bool) : vivariumref04_Check.j2 (q + 3) b k w h u s = some (if b = true then 42 else turnR k w h u s) := by
  rw [vivariumref04_Check.j2]
  simp only [r3 k w h u s hw hw' hh hh', turnR]
  grind
theorem r1 (hw : 0 ≤ w) (hw' : w ≤ 65536) (hh : 0 ≤ h) (hh' : h ≤ 65536) (q : Nat) (b : Bool) : vivariumref04_Check.j1 (q + 4) b k w h u s = some (if b = true then 41 else if k ≥ 3 ∧ (w = 0 ∨ h = 0) then 42 else turnR k w h u s) := by
  rw [vivariumref04_Check.j1]
  simp only [r2 k w h u s hw hw' hh hh']
  grind
/-- The reference's Check. -/
theorem ref_check (q : Nat) : vivariumref04_Check.f (q + 5) k w h u s = some (checkR k w h u s) := by
  unfold vivariumref04_Check.f checkR
  have t1 : ∀ q, vivariumref04_Check.j1 (q + 1) true k w h u s = some 41 := fun q => by rw [vivariumref04_Check.j1, if_pos rfl]
  have t2 := t1 (q + 3)
  have a1 : ∀ b, 0 ≤ w → w ≤ 65536 → 0 ≤ h → h ≤ 65536 → vivariumref04_Check.j1 (q + 4) b k w h u s = some (if b = true then 41 else if k ≥ 3 ∧ (w = 0 ∨ h = 0) then 42 else turnR k w h u s) := fun b x3 x4 x5 x6 => r1 k w h u s x3 x4 x5 x6 q b
  have a2 := a1 (w != h)
  have a3 := a1 false
  simp only [vivariumref04_Check.j0]
  grind
end
end Go.Proofs.YtmcidodpnhkdfaaDoor.CheckRef
