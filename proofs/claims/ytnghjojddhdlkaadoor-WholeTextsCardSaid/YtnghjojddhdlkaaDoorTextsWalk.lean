/- The machine side of WholeTexts. -/
import Derived.Test.YtnghjojddhdlkaaDoorAlive
import Derived.Test.YtnghjojddhdlkaaDoorTextPlain
namespace Go.Proofs.YtnghjojddhdlkaaDoor.TextsWalk
open Go.RowKit Go.Proofs.YtnghjojddhdlkaaDoorW.PrintWords Go.Proofs.YtnghjojddhdlkaaDoor.Alive Go.Proofs.YtnghjojddhdlkaaDoor.TextPlain
set_option linter.unusedVariables false
set_option linter.unusedSimpArgs false
set_option maxHeartbeats 2000000 in
set_option maxRecDepth 100000 in
theorem law (n : Int) (s : ByteArray) (hn : (Lit.int .i64 n).wf = true) (w : World) (hp : Pow w) :
    Calls Tryd.prog 3 #[.int .i64 n, .string s] w fun e w' => e = .returned (.bool true) ∧ Below w.heap.size w w' := by
  simp [Lit.wf, IntKind.min, IntKind.max, IntKind.signed, IntKind.bits] at hn
  obtain ⟨n0, n1⟩ := hn
  have p1 := fun (W : World) => PTexts.whole_Parse.calls (2 * s.size + 6) s (readR s).1 (readR s).2 W (prog_reads s _ (Nat.le_refl _))
  have p2 := fun (W : World) => PTexts.vivariumref01_Parse.calls (2 * s.size + 6) s (readR s).1 (readR s).2 W (ref_reads s _ (Nat.le_refl _))
  have t2 := fun (W : World) => PTexts.vivariumref01_Text.calls 30 n _ W (ref_text n n0 (by omega))
  have t1 : ∀ W : World, Below w.heap.size w W → Calls Tryd.prog 12 #[.int .i64 n] W fun e w' => e = .returned (.string ⟨(Lib.itoa n).toArray⟩) ∧ Below W.heap.size W w' := fun W hb => text_any n n0 (by omega) W (hp.on hb)
  generalize (readR s).1 = v at p1 p2
  generalize (readR s).2 = f at p1 p2
  generalize (⟨(Lib.itoa n).toArray⟩ : ByteArray) = z at t1 t2
  have P1 := Lib.hid p1; have P2 := Lib.hid p2; have T1 := Lib.hid t1; have T2 := Lib.hid t2
  clear p1 p2 t1 t2 hp
  go_enter Tryd.func3, Tryd.ntmps3
  go_wp2_with (first
    | (go_at_call 10; refine (P1.out _).mono ?_; rintro e w' ⟨rfl, ⟨nd, rfl⟩⟩)
    | (go_at_call 11; refine (P2.out _).mono ?_; rintro e w' ⟨rfl, ⟨nd, rfl⟩⟩)
    | (go_at_call 12; refine (T1.out _ (by repeat (first | exact Below.refl _ _ | apply pw_below_drewN))).mono ?_; rintro e w' ⟨rfl, ha⟩)
    | (go_at_call 13; refine (T2.out _).mono ?_; rintro e w' ⟨rfl, hb⟩))
  go_ret
  exact ⟨rfl, chain (chain (by repeat (first | exact Below.refl _ _ | apply pw_below_drewN)) ha) hb⟩
end Go.Proofs.YtnghjojddhdlkaaDoor.TextsWalk
