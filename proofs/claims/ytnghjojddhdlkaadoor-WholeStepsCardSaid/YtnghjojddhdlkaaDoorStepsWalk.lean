/- The machine side of WholeSteps and its plain law: one n further. -/
import Derived.Test.YtnghjojddhdlkaaDoorAlive
import Derived.Test.YtnghjojddhdlkaaDoorMath
import Derived.Test.YtnghjojddhdlkaaDoorSumsPlain
import Derived.Test.YtnghjojddhdlkaaDoorGcdPlain
namespace Go.Proofs.YtnghjojddhdlkaaDoor.StepsWalk
open Go.RowKit Go.Proofs.YtnghjojddhdlkaaDoorW.PrintWords Go.Proofs.YtnghjojddhdlkaaDoor.Alive Go.Proofs.YtnghjojddhdlkaaDoor.Math Go.Proofs.YtnghjojddhdlkaaDoor.SumsPlain Go.Proofs.YtnghjojddhdlkaaDoor.GcdPlain
set_option linter.unusedVariables false
set_option linter.unusedSimpArgs false
theorem w32_in (x : Int) (h0 : -2147483648 ≤ x) (h1 : x < 2147483648) : wrap32 x = x := by unfold wrap32; omega
theorem mod32 (a n : Int) (w : World) (n1 : n ≤ 2147483647) : Calls Tryd.prog 20 #[.int .i32 a, .int .i32 n] w fun e w' => e = .returned (.tuple #[.int .i32 (modR a n).1, .bool (modR a n).2]) ∧ Drawn0 w w' :=
  PNums.whole_Mod_int32.calls a n _ _ w (mod_of _ _ _ 2147483648 w32_in (by omega) (by omega))
theorem div32 (a n : Int) (w : World) (a0 : -2147483648 ≤ a) (a1 : a ≤ 2147483647) : Calls Tryd.prog 21 #[.int .i32 a, .int .i32 n] w fun e w' => e = .returned (.tuple #[.int .i32 (divR a n).1, .bool (divR a n).2]) ∧ Drawn0 w w' :=
  PNums.whole_Div_int32.calls a n _ _ w (div_of _ _ _ 2147483648 w32_in (by omega) (by omega) (by omega))
theorem add32 (a b : Int) (a0 : -2147483648 ≤ a) (a1 : a ≤ 2147483647) (b0 : -2147483648 ≤ b) (b1 : b ≤ 2147483647) (w : World) : Calls Tryd.prog 19 #[.int .i32 a, .int .i32 b] w fun e w' => e = .returned (.tuple #[.int .i32 (addR 2147483648 a b).1, .bool (addR 2147483648 a b).2]) ∧ Drawn0 w w' :=
  PNums.whole_Add_int32.calls a b _ _ w (add_of wr32 (by omega) a b a0 (by omega) b0 (by omega))
theorem one_in {a n : Int} (h : ¬ n < 1) : modR a n = (a % n, true) ∧ divR a n = (a / n, true) := ⟨if_neg h, if_neg h⟩
set_option maxHeartbeats 4000000 in
set_option maxRecDepth 100000 in
theorem law0 (a n : Int) (a0 : -2147483648 ≤ a) (a1 : a ≤ 2147483647) (n0 : -2147483648 ≤ n) (n1 : n ≤ 2147483647) (hn : n < 1) (w : World) (hp : Pow w) :
    Calls Tryd.prog 5 #[.int .i32 a, .int .i32 n] w fun e w' => e = .returned (.bool true) ∧ Below w.heap.size w w' := by
  have c19 := fun (W : World) => add32 a n a0 a1 n0 n1 W
  generalize (addR 2147483648 a n).1 = s at *
  generalize (addR 2147483648 a n).2 = t at *
  have al : ∀ W : World, Below w.heap.size w W → Calls Tryd.prog 14 #[] W fun e w' => e = .returned (.bool true) ∧ Below W.heap.size W w' := fun W hb => alive W (hp.on hb)
  have C19 := Lib.hid c19; have AL := Lib.hid al
  clear c19 al hp
  go_enter Tryd.func5, Tryd.ntmps5
  go_wp2_with (first
    | (go_at_call 14; refine (AL.out _ (Below.refl _ _)).mono ?_; rintro e w' ⟨rfl, ha⟩)
    | (go_at_call 19; refine (C19.out _).mono ?_; rintro e w' ⟨rfl, ⟨nd, rfl⟩⟩))
  go_ret
  exact ⟨rfl, by repeat (first | exact ha | apply pw_below_drewN)⟩
set_option maxHeartbeats 4000000 in
set_option maxRecDepth 100000 in
theorem law1 (a n : Int) (a0 : -2147483648 ≤ a) (a1 : a ≤ 2147483647) (n0 : -2147483648 ≤ n) (n1 : n ≤ 2147483647) (hn : ¬ n < 1) (hf : ¬ (-2147483648 ≤ a + n ∧ a + n < 2147483648)) (w : World) (hp : Pow w) :
    Calls Tryd.prog 5 #[.int .i32 a, .int .i32 n] w fun e w' => e = .returned (.bool true) ∧ Below w.heap.size w w' := by
  have c19 := fun (W : World) => add32 a n a0 a1 n0 n1 W
  have e : addR 2147483648 a n = (0, false) := if_neg hf
  simp only [e] at c19
  clear hf e
  have al : ∀ W : World, Below w.heap.size w W → Calls Tryd.prog 14 #[] W fun e w' => e = .returned (.bool true) ∧ Below W.heap.size W w' := fun W hb => alive W (hp.on hb)
  have C19 := Lib.hid c19; have AL := Lib.hid al
  clear c19 al hp
  go_enter Tryd.func5, Tryd.ntmps5
  go_wp2_with (first
    | (go_at_call 14; refine (AL.out _ (Below.refl _ _)).mono ?_; rintro e w' ⟨rfl, ha⟩)
    | (go_at_call 19; refine (C19.out _).mono ?_; rintro e w' ⟨rfl, ⟨nd, rfl⟩⟩))
  go_ret
  exact ⟨rfl, by repeat (first | exact ha | apply pw_below_drewN)⟩
set_option maxHeartbeats 4000000 in
set_option maxRecDepth 100000 in
theorem law2 (a n : Int) (a0 : -2147483648 ≤ a) (a1 : a ≤ 2147483647) (n0 : -2147483648 ≤ n) (n1 : n ≤ 2147483647) (hn : ¬ n < 1) (hf : -2147483648 ≤ a + n ∧ a + n < 2147483648) (w : World) (hp : Pow w) :
    Calls Tryd.prog 5 #[.int .i32 a, .int .i32 n] w fun e w' => e = .returned (.bool true) ∧ Below w.heap.size w w' := by
  have c19 := fun (W : World) => add32 a n a0 a1 n0 n1 W
  have e : addR 2147483648 a n = (a + n, true) := if_pos hf
  simp only [e] at c19
  clear e
  have ma := fun (W : World) => mod32 a n W n1
  have mb := fun (W : World) => mod32 (a + n) n W n1
  have da := fun (W : World) => div32 a n W a0 a1
  have db := fun (W : World) => div32 (a + n) n W hf.1 (by omega)
  simp only [(one_in hn).1] at ma mb
  simp only [(one_in hn).2] at da db
  rw [show (a + n) % n = a % n by rw [Int.add_emod_right]] at mb
  have e1 : (a + n) / n = a / n + 1 := by
    rw [Int.add_ediv_of_dvd_right (Int.dvd_refl n), Int.ediv_self (by omega)]
  rw [e1] at db
  have r0 := Int.emod_nonneg a (show n ≠ 0 by omega)
  have r1 := Int.emod_lt_of_pos a (show 0 < n by omega)
  have q2 := ediv_in a n 2147483648 (by omega) (by omega) a0 (by omega)
  have q3 := ediv_in (a + n) n 2147483648 (by omega) (by omega) hf.1 (by omega)
  rw [e1] at q3
  clear e1
  generalize a % n = r at *
  generalize a / n = q at *
  obtain ⟨q4, q5⟩ := q3
  obtain ⟨q6, q7⟩ := q2
  obtain ⟨f0, f1⟩ := hf
  have al : ∀ W : World, Below w.heap.size w W → Calls Tryd.prog 14 #[] W fun e w' => e = .returned (.bool true) ∧ Below W.heap.size W w' := fun W hb => alive W (hp.on hb)
  have C19 := Lib.hid c19; have MA := Lib.hid ma; have MB := Lib.hid mb; have DA := Lib.hid da; have DB := Lib.hid db; have AL := Lib.hid al
  clear c19 ma mb da db al hp
  go_enter Tryd.func5, Tryd.ntmps5
  go_wp2_with (first
    | (go_at_call 14; refine (AL.out _ (Below.refl _ _)).mono ?_; rintro e w' ⟨rfl, ha⟩)
    | (go_at_call 19; refine (C19.out _).mono ?_; rintro e w' ⟨rfl, ⟨nd, rfl⟩⟩)
    | (go_at_call 20; with_reducible refine (MA.out _).mono ?_; rintro e w' ⟨rfl, ⟨nd, rfl⟩⟩)
    | (go_at_call 20; with_reducible refine (MB.out _).mono ?_; rintro e w' ⟨rfl, ⟨nd, rfl⟩⟩)
    | (go_at_call 21; with_reducible refine (DA.out _).mono ?_; rintro e w' ⟨rfl, ⟨nd, rfl⟩⟩)
    | (go_at_call 21; with_reducible refine (DB.out _).mono ?_; rintro e w' ⟨rfl, ⟨nd, rfl⟩⟩))
  go_ret
  exact ⟨rfl, by repeat (first | exact ha | apply pw_below_drewN)⟩
theorem law (a n : Int) (ha : (Lit.int .i32 a).wf = true) (hn : (Lit.int .i32 n).wf = true) (w : World) (hp : Pow w) :
    Calls Tryd.prog 5 #[.int .i32 a, .int .i32 n] w fun e w' => e = .returned (.bool true) ∧ Below w.heap.size w w' := by
  simp [Lit.wf, IntKind.min, IntKind.max, IntKind.signed, IntKind.bits] at ha hn
  by_cases h1 : n < 1
  · exact law0 a n ha.1 (by omega) hn.1 (by omega) h1 w hp
  · by_cases h2 : -2147483648 ≤ a + n ∧ a + n < 2147483648
    · exact law2 a n ha.1 (by omega) hn.1 (by omega) h1 h2 w hp
    · exact law1 a n ha.1 (by omega) hn.1 (by omega) h1 h2 w hp
end Go.Proofs.YtnghjojddhdlkaaDoor.StepsWalk
