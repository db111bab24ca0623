/- The machine side of WholeParts and its plain law: the parts make the number again. -/
import Derived.Test.YtnghjojddhdlkaaDoorAlive
import Derived.Test.YtnghjojddhdlkaaDoorMath
namespace Go.Proofs.YtnghjojddhdlkaaDoor.PartsWalk
open Go.RowKit Go.Proofs.YtnghjojddhdlkaaDoorW.PrintWords Go.Proofs.YtnghjojddhdlkaaDoor.Alive Go.Proofs.YtnghjojddhdlkaaDoor.Math
set_option linter.unusedVariables false
set_option linter.unusedSimpArgs false
theorem i8_in (x : Int) (h0 : -128 ≤ x) (h1 : x < 128) : IntKind.i8.wrap x = x := by rw [i8_wrap]; omega
theorem w64_in (x : Int) (h0 : -9223372036854775808 ≤ x) (h1 : x < 9223372036854775808) : wrap64 x = x := by unfold wrap64; omega
theorem modI (a n : Int) (w : World) (n1 : n ≤ 9223372036854775807) : Calls Tryd.prog 16 #[.int .i64 a, .int .i64 n] w fun e w' => e = .returned (.tuple #[.int .i64 (modR a n).1, .bool (modR a n).2]) ∧ Drawn0 w w' :=
  PNums.whole_Mod_int.calls a n _ _ w (mod_of _ _ _ 9223372036854775808 w64_in (by omega) (by omega))
theorem divI (a n : Int) (w : World) (a0 : -9223372036854775808 ≤ a) (a1 : a ≤ 9223372036854775807) : Calls Tryd.prog 15 #[.int .i64 a, .int .i64 n] w fun e w' => e = .returned (.tuple #[.int .i64 (divR a n).1, .bool (divR a n).2]) ∧ Drawn0 w w' :=
  PNums.whole_Div_int.calls a n _ _ w (div_of _ _ _ 9223372036854775808 w64_in (by omega) (by omega) (by omega))
theorem mod8 (a n : Int) (w : World) (n1 : n ≤ 127) : Calls Tryd.prog 18 #[.int .i8 a, .int .i8 n] w fun e w' => e = .returned (.tuple #[.int .i8 (modR a n).1, .bool (modR a n).2]) ∧ Drawn0 w w' :=
  PNums.whole_Mod_int8.calls a n _ _ w (mod_of _ _ _ 128 i8_in (by omega) (by omega))
theorem div8 (a n : Int) (w : World) (a0 : -128 ≤ a) (a1 : a ≤ 127) : Calls Tryd.prog 17 #[.int .i8 a, .int .i8 n] w fun e w' => e = .returned (.tuple #[.int .i8 (divR a n).1, .bool (divR a n).2]) ∧ Drawn0 w w' :=
  PNums.whole_Div_int8.calls a n _ _ w (div_of _ _ _ 128 i8_in (by omega) (by omega) (by omega))
theorem one_out {a n : Int} (h : n < 1) : modR a n = (0, false) ∧ divR a n = (0, false) := ⟨if_pos h, if_pos h⟩
theorem one_in {a n : Int} (h : ¬ n < 1) : modR a n = (a % n, true) ∧ divR a n = (a / n, true) := ⟨if_neg h, if_neg h⟩
set_option maxHeartbeats 4000000 in
set_option maxRecDepth 100000 in
theorem law00 (a n b m : Int) (a0 : -9223372036854775808 ≤ a) (a1 : a ≤ 9223372036854775807) (n0 : -9223372036854775808 ≤ n) (n1 : n ≤ 9223372036854775807) (b0 : -128 ≤ b) (b1 : b ≤ 127) (m0 : -128 ≤ m) (m1 : m ≤ 127) (hn : n < 1) (hm : m < 1) (w : World) (hp : Pow w) :
    Calls Tryd.prog 4 #[.int .i64 a, .int .i64 n, .int .i8 b, .int .i8 m] w fun e w' => e = .returned (.bool true) ∧ Below w.heap.size w w' := by
  have c16 := fun (W : World) => modI a n W n1
  have c15 := fun (W : World) => divI a n W a0 a1
  have c18 := fun (W : World) => mod8 b m W m1
  have c17 := fun (W : World) => div8 b m W b0 b1
  simp only [(one_out hn).1] at c16
  simp only [(one_out hn).2] at c15
  simp only [(one_out hm).1] at c18
  simp only [(one_out hm).2] at c17
  have al : ∀ W : World, Below w.heap.size w W → Calls Tryd.prog 14 #[] W fun e w' => e = .returned (.bool true) ∧ Below W.heap.size W w' := fun W hb => alive W (hp.on hb)
  have C16 := Lib.hid c16; have C15 := Lib.hid c15; have C18 := Lib.hid c18; have C17 := Lib.hid c17; have AL := Lib.hid al
  clear c16 c15 c18 c17 al hp
  go_enter Tryd.func4, Tryd.ntmps4
  go_wp2_with (first
    | (go_at_call 14; refine (AL.out _ (Below.refl _ _)).mono ?_; rintro e w' ⟨rfl, ha⟩)
    | (go_at_call 16; refine (C16.out _).mono ?_; rintro e w' ⟨rfl, ⟨nd, rfl⟩⟩)
    | (go_at_call 15; refine (C15.out _).mono ?_; rintro e w' ⟨rfl, ⟨nd, rfl⟩⟩)
    | (go_at_call 18; refine (C18.out _).mono ?_; rintro e w' ⟨rfl, ⟨nd, rfl⟩⟩)
    | (go_at_call 17; refine (C17.out _).mono ?_; rintro e w' ⟨rfl, ⟨nd, rfl⟩⟩))
  go_ret
  exact ⟨rfl, by repeat (first | exact ha | apply pw_below_drewN)⟩
set_option maxHeartbeats 4000000 in
set_option maxRecDepth 100000 in
theorem law01 (a n b m : Int) (a0 : -9223372036854775808 ≤ a) (a1 : a ≤ 9223372036854775807) (n0 : -9223372036854775808 ≤ n) (n1 : n ≤ 9223372036854775807) (b0 : -128 ≤ b) (b1 : b ≤ 127) (m0 : -128 ≤ m) (m1 : m ≤ 127) (hn : n < 1) (hm : ¬ m < 1) (w : World) (hp : Pow w) :
    Calls Tryd.prog 4 #[.int .i64 a, .int .i64 n, .int .i8 b, .int .i8 m] w fun e w' => e = .returned (.bool true) ∧ Below w.heap.size w w' := by
  have c16 := fun (W : World) => modI a n W n1
  have c15 := fun (W : World) => divI a n W a0 a1
  have c18 := fun (W : World) => mod8 b m W m1
  have c17 := fun (W : World) => div8 b m W b0 b1
  simp only [(one_out hn).1] at c16
  simp only [(one_out hn).2] at c15
  simp only [(one_in hm).1] at c18
  simp only [(one_in hm).2] at c17
  have t0 := Int.emod_nonneg b (show m ≠ 0 by omega)
  have t1 := Int.emod_lt_of_pos b (show 0 < m by omega)
  have ts := Int.mul_ediv_add_emod b m
  have s2 := ediv_in b m 128 (by omega) (by omega) b0 (by omega)
  generalize b % m = t at *
  generalize b / m = s at *
  obtain ⟨s3, s4⟩ := s2
  have x2 : (wrap64 (wrap64 (s * m) + t) != b) = false := by
    rw [show s * m = b - t by rw [Int.mul_comm]; omega]
    have : wrap64 (wrap64 (b - t) + t) = b := by unfold wrap64; omega
    simpa using this
  have TS := Lib.hid ts; clear ts
  have al : ∀ W : World, Below w.heap.size w W → Calls Tryd.prog 14 #[] W fun e w' => e = .returned (.bool true) ∧ Below W.heap.size W w' := fun W hb => alive W (hp.on hb)
  have C16 := Lib.hid c16; have C15 := Lib.hid c15; have C18 := Lib.hid c18; have C17 := Lib.hid c17; have AL := Lib.hid al
  clear c16 c15 c18 c17 al hp
  go_enter Tryd.func4, Tryd.ntmps4
  go_wp2_with (first
    | (go_at_call 14; refine (AL.out _ (Below.refl _ _)).mono ?_; rintro e w' ⟨rfl, ha⟩)
    | (go_at_call 16; refine (C16.out _).mono ?_; rintro e w' ⟨rfl, ⟨nd, rfl⟩⟩)
    | (go_at_call 15; refine (C15.out _).mono ?_; rintro e w' ⟨rfl, ⟨nd, rfl⟩⟩)
    | (go_at_call 18; refine (C18.out _).mono ?_; rintro e w' ⟨rfl, ⟨nd, rfl⟩⟩)
    | (go_at_call 17; refine (C17.out _).mono ?_; rintro e w' ⟨rfl, ⟨nd, rfl⟩⟩))
  go_ret
  exact ⟨rfl, by repeat (first | exact ha | apply pw_below_drewN)⟩
set_option maxHeartbeats 4000000 in
set_option maxRecDepth 100000 in
theorem law10 (a n b m : Int) (a0 : -9223372036854775808 ≤ a) (a1 : a ≤ 9223372036854775807) (n0 : -9223372036854775808 ≤ n) (n1 : n ≤ 9223372036854775807) (b0 : -128 ≤ b) (b1 : b ≤ 127) (m0 : -128 ≤ m) (m1 : m ≤ 127) (hn : ¬ n < 1) (hm : m < 1) (w : World) (hp : Pow w) :
    Calls Tryd.prog 4 #[.int .i64 a, .int .i64 n, .int .i8 b, .int .i8 m] w fun e w' => e = .returned (.bool true) ∧ Below w.heap.size w w' := by
  have c16 := fun (W : World) => modI a n W n1
  have c15 := fun (W : World) => divI a n W a0 a1
  have c18 := fun (W : World) => mod8 b m W m1
  have c17 := fun (W : World) => div8 b m W b0 b1
  simp only [(one_in hn).1] at c16
  simp only [(one_in hn).2] at c15
  simp only [(one_out hm).1] at c18
  simp only [(one_out hm).2] at c17
  have r0 := Int.emod_nonneg a (show n ≠ 0 by omega)
  have r1 := Int.emod_lt_of_pos a (show 0 < n by omega)
  have rq := Int.mul_ediv_add_emod a n
  have q2 := ediv_in a n 9223372036854775808 (by omega) (by omega) a0 (by omega)
  generalize a % n = r at *
  generalize a / n = q at *
  have x1 : (wrap64 (wrap64 (q * n) + r) != a) = false := by
    rw [show q * n = a - r by rw [Int.mul_comm]; omega]
    have : wrap64 (wrap64 (a - r) + r) = a := by unfold wrap64; omega
    simpa using this
  have RQ := Lib.hid rq; clear rq
  have al : ∀ W : World, Below w.heap.size w W → Calls Tryd.prog 14 #[] W fun e w' => e = .returned (.bool true) ∧ Below W.heap.size W w' := fun W hb => alive W (hp.on hb)
  have C16 := Lib.hid c16; have C15 := Lib.hid c15; have C18 := Lib.hid c18; have C17 := Lib.hid c17; have AL := Lib.hid al
  clear c16 c15 c18 c17 al hp
  go_enter Tryd.func4, Tryd.ntmps4
  go_wp2_with (first
    | (go_at_call 14; refine (AL.out _ (Below.refl _ _)).mono ?_; rintro e w' ⟨rfl, ha⟩)
    | (go_at_call 16; refine (C16.out _).mono ?_; rintro e w' ⟨rfl, ⟨nd, rfl⟩⟩)
    | (go_at_call 15; refine (C15.out _).mono ?_; rintro e w' ⟨rfl, ⟨nd, rfl⟩⟩)
    | (go_at_call 18; refine (C18.out _).mono ?_; rintro e w' ⟨rfl, ⟨nd, rfl⟩⟩)
    | (go_at_call 17; refine (C17.out _).mono ?_; rintro e w' ⟨rfl, ⟨nd, rfl⟩⟩))
  go_ret
  exact ⟨rfl, by repeat (first | exact ha | apply pw_below_drewN)⟩
set_option maxHeartbeats 4000000 in
set_option maxRecDepth 100000 in
theorem law11 (a n b m : Int) (a0 : -9223372036854775808 ≤ a) (a1 : a ≤ 9223372036854775807) (n0 : -9223372036854775808 ≤ n) (n1 : n ≤ 9223372036854775807) (b0 : -128 ≤ b) (b1 : b ≤ 127) (m0 : -128 ≤ m) (m1 : m ≤ 127) (hn : ¬ n < 1) (hm : ¬ m < 1) (w : World) (hp : Pow w) :
    Calls Tryd.prog 4 #[.int .i64 a, .int .i64 n, .int .i8 b, .int .i8 m] w fun e w' => e = .returned (.bool true) ∧ Below w.heap.size w w' := by
  have c16 := fun (W : World) => modI a n W n1
  have c15 := fun (W : World) => divI a n W a0 a1
  have c18 := fun (W : World) => mod8 b m W m1
  have c17 := fun (W : World) => div8 b m W b0 b1
  simp only [(one_in hn).1] at c16
  simp only [(one_in hn).2] at c15
  simp only [(one_in hm).1] at c18
  simp only [(one_in hm).2] at c17
  have r0 := Int.emod_nonneg a (show n ≠ 0 by omega)
  have r1 := Int.emod_lt_of_pos a (show 0 < n by omega)
  have rq := Int.mul_ediv_add_emod a n
  have q2 := ediv_in a n 9223372036854775808 (by omega) (by omega) a0 (by omega)
  generalize a % n = r at *
  generalize a / n = q at *
  have x1 : (wrap64 (wrap64 (q * n) + r) != a) = false := by
    rw [show q * n = a - r by rw [Int.mul_comm]; omega]
    have : wrap64 (wrap64 (a - r) + r) = a := by unfold wrap64; omega
    simpa using this
  have RQ := Lib.hid rq; clear rq
  have t0 := Int.emod_nonneg b (show m ≠ 0 by omega)
  have t1 := Int.emod_lt_of_pos b (show 0 < m by omega)
  have ts := Int.mul_ediv_add_emod b m
  have s2 := ediv_in b m 128 (by omega) (by omega) b0 (by omega)
  generalize b % m = t at *
  generalize b / m = s at *
  obtain ⟨s3, s4⟩ := s2
  have x2 : (wrap64 (wrap64 (s * m) + t) != b) = false := by
    rw [show s * m = b - t by rw [Int.mul_comm]; omega]
    have : wrap64 (wrap64 (b - t) + t) = b := by unfold wrap64; omega
    simpa using this
  have TS := Lib.hid ts; clear ts
  have al : ∀ W : World, Below w.heap.size w W → Calls Tryd.prog 14 #[] W fun e w' => e = .returned (.bool true) ∧ Below W.heap.size W w' := fun W hb => alive W (hp.on hb)
  have C16 := Lib.hid c16; have C15 := Lib.hid c15; have C18 := Lib.hid c18; have C17 := Lib.hid c17; have AL := Lib.hid al
  clear c16 c15 c18 c17 al hp
  go_enter Tryd.func4, Tryd.ntmps4
  go_wp2_with (first
    | (go_at_call 14; refine (AL.out _ (Below.refl _ _)).mono ?_; rintro e w' ⟨rfl, ha⟩)
    | (go_at_call 16; refine (C16.out _).mono ?_; rintro e w' ⟨rfl, ⟨nd, rfl⟩⟩)
    | (go_at_call 15; refine (C15.out _).mono ?_; rintro e w' ⟨rfl, ⟨nd, rfl⟩⟩)
    | (go_at_call 18; refine (C18.out _).mono ?_; rintro e w' ⟨rfl, ⟨nd, rfl⟩⟩)
    | (go_at_call 17; refine (C17.out _).mono ?_; rintro e w' ⟨rfl, ⟨nd, rfl⟩⟩))
  go_ret
  exact ⟨rfl, by repeat (first | exact ha | apply pw_below_drewN)⟩
theorem law (a n b m : Int) (ha : (Lit.int .i64 a).wf = true) (hn : (Lit.int .i64 n).wf = true) (hb : (Lit.int .i8 b).wf = true) (hm : (Lit.int .i8 m).wf = true) (w : World) (hp : Pow w) :
    Calls Tryd.prog 4 #[.int .i64 a, .int .i64 n, .int .i8 b, .int .i8 m] w fun e w' => e = .returned (.bool true) ∧ Below w.heap.size w w' := by
  simp [Lit.wf, IntKind.min, IntKind.max, IntKind.signed, IntKind.bits] at ha hn hb hm
  by_cases h1 : n < 1 <;> by_cases h2 : m < 1
  · exact law00 a n b m ha.1 (by omega) hn.1 (by omega) hb.1 (by omega) hm.1 (by omega) h1 h2 w hp
  · exact law01 a n b m ha.1 (by omega) hn.1 (by omega) hb.1 (by omega) hm.1 (by omega) h1 h2 w hp
  · exact law10 a n b m ha.1 (by omega) hn.1 (by omega) hb.1 (by omega) hm.1 (by omega) h1 h2 w hp
  · exact law11 a n b m ha.1 (by omega) hn.1 (by omega) hb.1 (by omega) hm.1 (by omega) h1 h2 w hp
end Go.Proofs.YtnghjojddhdlkaaDoor.PartsWalk
