/- reader.value in the print's form. -/
import Derived.Test.YtmcidodpnhkdfaaDoorValWalk
namespace Go.Proofs.YtmcidodpnhkdfaaDoor.PQ
open Go.RowKit Go.Proofs.YtmcidodpnhkdfaaDoorW.PrintWords Go.Proofs.YtmcidodpnhkdfaaDoorW.PrintLast Go.Proofs.YtmcidodpnhkdfaaDoorW.PrintMore Go.Proofs.YtmcidodpnhkdfaaDoor.ParseSpec
set_option linter.unusedVariables false
def topo_reader_value.f (s0_0 : ByteArray) (s0_1 : Int) (s0_2 : List (S72)) (a1_0 : Int) (a1_1 : Int) : Option (Int × ByteArray × Int) :=
  if 0 ≤ a1_0 ∧ a1_0 ≤ a1_1 ∧ a1_1 ≤ s0_0.size ∧ s0_0.size ≤ 1048576 then some (val s0_0 a1_0.toNat a1_1.toNat, s0_0, s0_1) else none
theorem topo_reader_value.calls (PA : Option Addr) (pc : Nat) (g : Nat) (s0_0 : ByteArray) (s0_1 : Int) (s0_2 : List (S72)) (a1_0 : Int) (a1_1 : Int) (r1 : Int) (r2 : ByteArray) (r3 : Int) (w0 w : World) (hI : IsS66 PA pc w0 w g s0_0 s0_1 s0_2) (hB : Below w0.heap.size w0 w) (h : topo_reader_value.f s0_0 s0_1 s0_2 a1_0 a1_1 = some (r1, r2, r3)) :
    Calls Tryd.prog 33 #[.pointer (some ⟨g, 0, none⟩), .agg #[.int .i64 a1_0, .int .i64 a1_1]] w fun e w' => e = .returned (.int .i64 r1) ∧ IsS66 PA pc w0 w' g r2 r3 s0_2 ∧ Below w0.heap.size w0 w' ∧ KeepBut w w' g none := by
  unfold topo_reader_value.f at h
  split at h
  · rename_i hc
    obtain ⟨h0, h1, h2, h3⟩ := hc
    simp only [Option.some.injEq, Prod.mk.injEq] at h
    obtain ⟨rfl, rfl, rfl⟩ := h
    obtain ⟨a, rfl⟩ := Int.eq_ofNat_of_zero_le h0
    obtain ⟨b, rfl⟩ := Int.eq_ofNat_of_zero_le (Int.le_trans h0 h1)
    have hI' := hI
    obtain ⟨hb, hg, hr2⟩ := hI
    refine (ValWalk.walk s0_0 _ _ g a b (by omega) (by omega) h3 w hb).mono ?_
    rintro e w' ⟨rfl, hw⟩
    exact ⟨rfl, hI'.below hw, below_step hB hw, KeepBut.of_below hw g none⟩
  · cases h
end Go.Proofs.YtmcidodpnhkdfaaDoor.PQ
