/- A number's text, by the library's own table. -/
import Derived.Test.YtmcidodpnhkdfaaDoorShelf
import Derived.Test.YtmcidodpnhkdfaaDoorBox
import Derived.Lib.AppendIntMem
import Derived.Lib.SmallJoins
import Derived.Lib.Hide
namespace Go.Proofs.YtmcidodpnhkdfaaDoor.Text
open Go.RowKit Go.Proofs.YtmcidodpnhkdfaaDoorW.PrintWords Go.Proofs.YtmcidodpnhkdfaaDoor.Box
set_option linter.unusedVariables false
/-- The one table that a number's text reads. -/
def Pow (w : World) : Prop := Lib.TabIs Tryd.prog w "internal/strconv.uint64pow10" .u64 Lib.pow10Tab
theorem gPow : Tryd.prog.globalNamed "internal/strconv.uint64pow10" = some 0 ∨ Tryd.prog.globalNamed "internal/strconv.uint64pow10" = some 1 ∨ Tryd.prog.globalNamed "internal/strconv.uint64pow10" = some 2 := by
  first | exact .inl (by decide +kernel) | exact .inr (.inl (by decide +kernel)) | exact .inr (.inr (by decide +kernel))
theorem Pow.on {w w' : World} (h : Pow w) (hb : Below w.heap.size w w') : Pow w' := by
  unfold Pow at h ⊢
  exact Lib.tabBelow_of_tabIs h _ hb
theorem text_any (n : Int) (h0 : -9223372036854775808 ≤ n) (h1 : n ≤ 9223372036854775807) (w : World) (hp : Pow w) :
    Calls Tryd.prog 25 #[.int .i64 n] w fun e w' => e = .returned (.string ⟨(Lib.itoa n).toArray⟩) ∧ Below w.heap.size w w' := by
  have H := Lib.hid hp
  clear hp
  go_enter Tryd.func25, Tryd.ntmps25
  go_wp2_with (go_at_call 38; refine (Tryd.strconv_Itoa n h0 h1 _ H.out).mono ?_; rintro e w' ⟨rfl, k, os, rfl⟩)
  go_ret
  exact ⟨rfl, Lib.below_grow _ _ (Nat.le_refl _) k os⟩
end Go.Proofs.YtmcidodpnhkdfaaDoor.Text
