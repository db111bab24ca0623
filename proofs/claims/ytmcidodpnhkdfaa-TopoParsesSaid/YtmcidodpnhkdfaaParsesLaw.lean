/- The machine side of TopoParses. -/
import Derived.Test.YtmcidodpnhkdfaaRefAll
import Derived.Test.YtmcidodpnhkdfaaBox
namespace Go.Proofs.Ytmcidodpnhkdfaa.ParsesLaw
open Go.RowKit Go.Proofs.YtmcidodpnhkdfaaW.PrintWords Go.Proofs.Ytmcidodpnhkdfaa.ParseSpec Go.Proofs.Ytmcidodpnhkdfaa.Box
set_option linter.unusedVariables false
set_option linter.unusedSimpArgs false
set_option maxHeartbeats 4000000 in
set_option maxRecDepth 100000 in
theorem law (s : ByteArray) (w : World) : Calls Try.prog 5 #[.string s] w fun e w' => e = .returned (.bool true) ∧ Below w.heap.size w w' := by
  have k16 := fun (W : World) => ParseAll.parse_calls s W
  have k17 := fun (W : World) => RefAll.ref_calls s W
  generalize parse s = r at k16 k17
  obtain ⟨c0, c1, c2, c3, c4, c5, c6⟩ := r
  simp only [ParseAll.told] at k16 k17
  have K16 := Lib.hid k16
  have K17 := Lib.hid k17
  clear k16 k17
  have hu := Try.underlying23
  go_enter Try.func5, Try.ntmps5
  go_wp2_with (first
    | (go_at_call 16; refine (K16.out _).mono ?_; rintro e w1 ⟨rfl, hb1⟩; have HB1 := Aside0.mk hb1; clear hb1)
    | (go_at_call 17; refine (K17.out _).mono ?_; rintro e w2 ⟨rfl, hb2⟩; have B2 := (Box.new w1 (.int .u8 c0) (.int .i64 c1) (.int .i64 c2) (.int .u8 c3) (.int .i64 c4) 23).on hb2; have HB2 := Aside0.mk (chain' HB1.out hb2); clear HB1; clear hb2; obtain ⟨q2, x20, x21, x22, x23, x24⟩ := B2))
  go_ret
  exact ⟨rfl, below_alloc HB2.out _⟩
end Go.Proofs.Ytmcidodpnhkdfaa.ParsesLaw
