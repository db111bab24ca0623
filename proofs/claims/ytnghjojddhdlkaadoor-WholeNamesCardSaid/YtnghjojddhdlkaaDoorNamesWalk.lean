/- The machine side of WholeNames: the closed sentence walked. -/
import Derived.Test.YtnghjojddhdlkaaDoorAlive
namespace Go.Proofs.YtnghjojddhdlkaaDoor.NamesWalk
open Go.RowKit Go.Proofs.YtnghjojddhdlkaaDoorW.PrintWords Go.Proofs.YtnghjojddhdlkaaDoor.Alive
set_option linter.unusedVariables false
set_option linter.unusedSimpArgs false
theorem itoa0 : Lib.itoa 0 = [48] := by simp [Lib.itoa, Lib.decDigits]
set_option maxHeartbeats 2000000 in
set_option maxRecDepth 100000 in
theorem law (w : World) (hp : Pow w) : Calls Tryd.prog 8 #[] w fun e w' => e = .returned (.bool true) ∧ Below w.heap.size w w' := by
  have p1 := fun (W : World) => PTexts.whole_Parse.calls 60 ⟨#[45, 57, 50, 50, 51, 51, 55, 50, 48, 51, 54, 56, 53, 52, 55, 55, 53, 56, 48, 56]⟩ (-9223372036854775808) 0 W (by decide +kernel)
  have p2 := fun (W : World) => PTexts.whole_Parse.calls 60 ⟨#[57, 50, 50, 51, 51, 55, 50, 48, 51, 54, 56, 53, 52, 55, 55, 53, 56, 48, 56]⟩ 0 11 W (by decide +kernel)
  have p3 := fun (W : World) => PTexts.whole_Parse.calls 20 ⟨#[43, 49]⟩ 0 10 W (by decide +kernel)
  have f1 := fun (W : World) => PNums.whole_Fits_int8.calls 127 127 true W (by decide +kernel)
  have f2 := fun (W : World) => PNums.whole_Fits_int8.calls 128 0 false W (by decide +kernel)
  have al : ∀ W : World, Below w.heap.size w W → Calls Tryd.prog 14 #[] W fun e w' => e = .returned (.bool true) ∧ Below W.heap.size W w' := fun W hb => alive W (hp.on hb)
  have tx : ∀ W : World, Below w.heap.size w W → Calls Tryd.prog 12 #[.int .i64 0] W fun e w' => e = .returned (.string ⟨#[48]⟩) ∧ Below W.heap.size W w' := fun W hb => by
    have := text_any 0 (by omega) (by omega) W (hp.on hb)
    rw [itoa0] at this
    exact this
  have P1 := Lib.hid p1; have P2 := Lib.hid p2; have P3 := Lib.hid p3; have F1 := Lib.hid f1; have F2 := Lib.hid f2; have AL := Lib.hid al; have TX := Lib.hid tx
  clear p1 p2 p3 f1 f2 al tx hp
  go_enter Tryd.func8, Tryd.ntmps8
  go_wp2_with (first
    | (go_at_call 10; with_reducible refine (P1.out _).mono ?_; rintro e w' ⟨rfl, ⟨nd, rfl⟩⟩)
    | (go_at_call 10; with_reducible refine (P2.out _).mono ?_; rintro e w' ⟨rfl, ⟨nd, rfl⟩⟩)
    | (go_at_call 10; with_reducible refine (P3.out _).mono ?_; rintro e w' ⟨rfl, ⟨nd, rfl⟩⟩)
    | (go_at_call 24; with_reducible refine (F1.out _).mono ?_; rintro e w' ⟨rfl, ⟨nd, rfl⟩⟩)
    | (go_at_call 24; with_reducible refine (F2.out _).mono ?_; rintro e w' ⟨rfl, ⟨nd, rfl⟩⟩)
    | (go_at_call 14; refine (AL.out _ (by repeat (first | exact Below.refl _ _ | apply pw_below_drewN))).mono ?_; rintro e w' ⟨rfl, ha⟩)
    | (go_at_call 12; refine (TX.out _ (by repeat (first | exact below_then (by repeat (first | exact Below.refl _ _ | apply pw_below_drewN)) (by simp) ha | apply pw_below_drewN))).mono ?_; rintro e w' ⟨rfl, hb⟩))
  go_ret
  exact ⟨rfl, chain (chain (by repeat (first | exact Below.refl _ _ | apply pw_below_drewN)) ha) hb⟩
end Go.Proofs.YtnghjojddhdlkaaDoor.NamesWalk
