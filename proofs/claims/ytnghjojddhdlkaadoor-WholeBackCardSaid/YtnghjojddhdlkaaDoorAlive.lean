/- The machine side that the outright statements of layer 1 share: a number's text, and that 'alive' answers true. -/
import Derived.Test.YtnghjojddhdlkaaDoorPTextsx1
import Derived.Test.YtnghjojddhdlkaaDoorPNumsx
import Derived.Test.YtnghjojddhdlkaaDoorShelf
import Derived.Lib.AppendIntMem
import Derived.Lib.SmallJoins
import Derived.Lib.Hide
namespace Go.Proofs.YtnghjojddhdlkaaDoor.Alive
open Go.RowKit Go.Proofs.YtnghjojddhdlkaaDoorW.PrintWords
set_option linter.unusedVariables false
set_option linter.unusedSimpArgs false

theorem chain {w w1 w2 : World} (h : Below w.heap.size w w1) (k : Below w1.heap.size w1 w2) : Below w.heap.size w w2 := below_then h h.size k
theorem of_drawn {w w1 : World} (h : Drawn0 w w1) : Below w.heap.size w w1 := h.below
/-- The one table that a number's text reads. -/
def Pow (w : World) : Prop := Lib.TabIs Tryd.prog w "internal/strconv.uint64pow10" .u64 Lib.pow10Tab
theorem gPow : Tryd.prog.globalNamed "internal/strconv.uint64pow10" = some 0 ∨ Tryd.prog.globalNamed "internal/strconv.uint64pow10" = some 1 ∨ Tryd.prog.globalNamed "internal/strconv.uint64pow10" = some 2 := by
  first | exact .inl (by decide +kernel) | exact .inr (.inl (by decide +kernel)) | exact .inr (.inr (by decide +kernel))
theorem Pow.on {w w' : World} (h : Pow w) (hb : Below w.heap.size w w') : Pow w' := by
  unfold Pow at h ⊢
  exact Lib.tabBelow_of_tabIs h _ hb

theorem text_any (n : Int) (h0 : -9223372036854775808 ≤ n) (h1 : n ≤ 9223372036854775807) (w : World) (hp : Pow w) :
    Calls Tryd.prog 12 #[.int .i64 n] w fun e w' => e = .returned (.string ⟨(Lib.itoa n).toArray⟩) ∧ Below w.heap.size w w' := by
  have H := Lib.hid hp
  clear hp
  go_enter Tryd.func12, Tryd.ntmps12
  go_wp2_with (go_at_call 32; refine (Tryd.strconv_Itoa n h0 h1 _ H.out).mono ?_; rintro e w' ⟨rfl, k, os, rfl⟩)
  go_ret
  exact ⟨rfl, Lib.below_grow _ _ (Nat.le_refl _) k os⟩

theorem itoa40 : Lib.itoa (-40) = [45, 52, 48] := by simp [Lib.itoa, Lib.decDigits]

set_option maxHeartbeats 2000000 in
set_option maxRecDepth 100000 in
theorem alive (w : World) (hp : Pow w) : Calls Tryd.prog 14 #[] w fun e w' => e = .returned (.bool true) ∧ Below w.heap.size w w' := by
  have c16 := fun (W : World) => PNums.whole_Mod_int.calls (-7) 3 2 true W (by decide +kernel)
  have c15 := fun (W : World) => PNums.whole_Div_int.calls (-7) 3 (-3) true W (by decide +kernel)
  have c34 := fun (W : World) => PNums.whole_Add_int8.calls 100 27 127 true W (by decide +kernel)
  have d34 := fun (W : World) => PNums.whole_Add_int8.calls 100 28 0 false W (by decide +kernel)
  have c35 := fun (W : World) => PNums.whole_Mul_int8.calls 1 16 (-8) (-128) true W (by decide +kernel)
  have d35 := fun (W : World) => PNums.whole_Mul_int8.calls 1 (-128) (-1) 0 false W (by decide +kernel)
  have c22 := fun (W : World) => PNums.whole_Gcd_int.calls 10 12 (-18) 6 true W (by decide +kernel)
  have c10 := fun (W : World) => PTexts.whole_Parse.calls 20 ⟨#[48, 48, 55]⟩ 7 0 W (by decide +kernel)
  have c36 := fun (W : World) => PNums.whole_Near_int.calls 3 5 1 3 3 W (by decide +kernel)
  have c12 : ∀ W : World, Below w.heap.size w W → Calls Tryd.prog 12 #[.int .i64 (-40)] W fun e w' => e = .returned (.string ⟨#[45, 52, 48]⟩) ∧ Below W.heap.size W w' := fun W hb => by
    have := text_any (-40) (by omega) (by omega) W (hp.on hb)
    rw [itoa40] at this
    exact this
  have C16 := Lib.hid c16; have C15 := Lib.hid c15; have C34 := Lib.hid c34; have D34 := Lib.hid d34; have C35 := Lib.hid c35; have D35 := Lib.hid d35; have C22 := Lib.hid c22; have C10 := Lib.hid c10; have C36 := Lib.hid c36; have C12 := Lib.hid c12
  clear c16 c15 c34 d34 c35 d35 c22 c10 c36 c12 hp
  go_enter Tryd.func14, Tryd.ntmps14
  go_wp2_with (first
    | (go_at_call 16; refine (C16.out _).mono ?_; rintro e w' ⟨rfl, ⟨nd, rfl⟩⟩)
    | (go_at_call 15; refine (C15.out _).mono ?_; rintro e w' ⟨rfl, ⟨nd, rfl⟩⟩)
    | (go_at_call 34; with_reducible refine (C34.out _).mono ?_; rintro e w' ⟨rfl, ⟨nd, rfl⟩⟩)
    | (go_at_call 34; with_reducible refine (D34.out _).mono ?_; rintro e w' ⟨rfl, ⟨nd, rfl⟩⟩)
    | (go_at_call 35; with_reducible refine (C35.out _).mono ?_; rintro e w' ⟨rfl, ⟨nd, rfl⟩⟩)
    | (go_at_call 35; with_reducible refine (D35.out _).mono ?_; rintro e w' ⟨rfl, ⟨nd, rfl⟩⟩)
    | (go_at_call 22; refine (C22.out _).mono ?_; rintro e w' ⟨rfl, ⟨nd, rfl⟩⟩)
    | (go_at_call 10; refine (C10.out _).mono ?_; rintro e w' ⟨rfl, ⟨nd, rfl⟩⟩)
    | (go_at_call 36; refine (C36.out _).mono ?_; rintro e w' ⟨rfl, ⟨nd, rfl⟩⟩)
    | (go_at_call 12; refine (C12.out _ (by repeat (first | exact Below.refl _ _ | apply pw_below_drewN))).mono ?_; rintro e w' ⟨rfl, hb⟩))
  go_ret
  exact ⟨rfl, by repeat (first | exact below_then (by repeat (first | exact Below.refl _ _ | apply pw_below_drewN)) (by simp) hb | apply pw_below_drewN)⟩
end Go.Proofs.YtnghjojddhdlkaaDoor.Alive
