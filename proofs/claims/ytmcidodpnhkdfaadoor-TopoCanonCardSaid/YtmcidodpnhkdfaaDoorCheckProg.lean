/- Plain laws on topologies: what may be, by the program's order of tests. Over the printed functions alone. -/
import Derived.Test.YtmcidodpnhkdfaaDoorPTx2
namespace Go.Proofs.YtmcidodpnhkdfaaDoor.CheckPlain
open Go.RowKit Go.Proofs.YtmcidodpnhkdfaaDoorW.PrintWords Go.Proofs.YtmcidodpnhkdfaaDoor.PT
set_option linter.unusedVariables false
set_option linter.unusedSimpArgs false

def lastR (k w h u s : Int) : Int :=
  if s ≥ (if u = 2 then h else w) ∨ s ≤ -(if u = 2 then h else w) then 43 else if k = 2 ∧ (s = 0 ∨ w = 0 ∨ h = 0) then 43 else 0
def turnR (k w h u s : Int) : Int := if u > 2 ∨ (u ≠ 0 ∧ k ≠ 2 ∧ k ≠ 3) ∨ (u = 0 ∧ k = 3) then 44 else if u = 0 then (if s = 0 then 0 else 43) else lastR k w h u s
/-- Whether a topology may be. -/
def checkR (k w h u s : Int) : Int :=
  if k < 1 ∨ k > 5 then 40 else if w < 0 ∨ w > 65536 ∨ h < 0 ∨ h > 65536 ∨ (k = 5 ∧ w ≠ h) then 41 else if k ≥ 3 ∧ (w = 0 ∨ h = 0) then 42 else turnR k w h u s

theorem neg_in {x : Int} (h0 : 0 ≤ x) (h1 : x ≤ 65536) : wrap64 (-x) = -x := by unfold wrap64; omega

section
variable (k w h u s : Int)
theorem p4 (hw : 0 ≤ w) (hw' : w ≤ 65536) (hh : 0 ≤ h) (hh' : h ≤ 65536) (q : Nat) (b : Bool) : topo_Check.j4 (q + 1) b k w h u s = some (if b = true then 43 else if u = 0 then 0 else lastR k w h u s) := by
  have e1 := neg_in hw hw'
  have e2 := neg_in hh hh'
  simp only [topo_Check.j4, topo_turned.f, lastR]
  grind
theorem p3 (hw : 0 ≤ w) (hw' : w ≤ 65536) (hh : 0 ≤ h) (hh' : h ≤ 65536) (q : Nat) (b : Bool) : topo_Check.j3 (q + 2) b k w h u s = some (if b = true then 44 else if u = 0 then (if s = 0 then 0 else 43) else lastR k w h u s) := by
  rw [topo_Check.j3]
  simp only [p4 k w h u s hw hw' hh hh']
  grind
theorem p2 (hw : 0 ≤ w) (hw' : w ≤ 65536) (hh : 0 ≤ h) (hh' : h ≤ 65536) (q : Nat) (b : Bool) (hb : b = true ↔ (k = 2 ∨ k = 3)) (hk : 1 ≤ k) : topo_Check.j2 (q + 3) b k w h u s = some (turnR k w h u s) := by
  rw [topo_Check.j2]
  simp only [p3 k w h u s hw hw' hh hh', turnR]
  grind
theorem p1 (hw : 0 ≤ w) (hw' : w ≤ 65536) (hh : 0 ≤ h) (hh' : h ≤ 65536) (q : Nat) (hk : 1 ≤ k) (hk' : k ≤ 5) : topo_Check.j1 (q + 4) false k w h u s = some (if k = 5 ∧ w ≠ h then 41 else if k ≥ 3 ∧ (w = 0 ∨ h = 0) then 42 else turnR k w h u s) := by
  rw [topo_Check.j1]
  have a1 : k ≠ 2 → k ≠ 3 → topo_Check.j2 (q + 3) false k w h u s = some (turnR k w h u s) := fun h1 h2 => p2 k w h u s hw hw' hh hh' q false (by simp; omega) hk
  have a2 : (k = 2 ∨ k = 3) → topo_Check.j2 (q + 3) true k w h u s = some (turnR k w h u s) := fun h1 => p2 k w h u s hw hw' hh hh' q true (by simp; omega) hk
  grind
/-- The program's Check. -/
theorem prog_check (q : Nat) : topo_Check.f (q + 5) k w h u s = some (checkR k w h u s) := by
  unfold topo_Check.f checkR
  have t1 : ∀ q, topo_Check.j1 (q + 1) true k w h u s = some 41 := fun q => by rw [topo_Check.j1, if_pos rfl]
  have a1 : 1 ≤ k → k ≤ 5 → 0 ≤ w → w ≤ 65536 → 0 ≤ h → h ≤ 65536 → topo_Check.j1 (q + 4) false k w h u s = some (if k = 5 ∧ w ≠ h then 41 else if k ≥ 3 ∧ (w = 0 ∨ h = 0) then 42 else turnR k w h u s) := fun x1 x2 x3 x4 x5 x6 => p1 k w h u s x3 x4 x5 x6 q x1 x2
  have t2 := t1 (q + 3)
  simp only [topo_Check.j0]
  grind
end
end Go.Proofs.YtmcidodpnhkdfaaDoor.CheckPlain
