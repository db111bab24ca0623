/- The machine side of WholeCommon and its plain law: the greatest common divisor divides both, and all that divide both divide it. -/
import Derived.Test.YtnghjojddhdlkaaDoorAlive
import Derived.Test.YtnghjojddhdlkaaDoorMath
import Derived.Test.YtnghjojddhdlkaaDoorSumsPlain
import Derived.Test.YtnghjojddhdlkaaDoorGcdPlain
namespace Go.Proofs.YtnghjojddhdlkaaDoor.CommonWalk
open Go.RowKit Go.Proofs.YtnghjojddhdlkaaDoorW.PrintWords Go.Proofs.YtnghjojddhdlkaaDoor.Alive Go.Proofs.YtnghjojddhdlkaaDoor.Math Go.Proofs.YtnghjojddhdlkaaDoor.SumsPlain Go.Proofs.YtnghjojddhdlkaaDoor.GcdPlain
set_option linter.unusedVariables false
set_option linter.unusedSimpArgs false
theorem gcdI (a b : Int) (a0 : -9223372036854775808 ≤ a) (a1 : a ≤ 9223372036854775807) (b0 : -9223372036854775808 ≤ b) (b1 : b ≤ 9223372036854775807) (w : World) :
    Calls Tryd.prog 22 #[.int .i64 a, .int .i64 b] w fun e w' => e = .returned (.tuple #[.int .i64 (res 9223372036854775808 (Nat.gcd a.natAbs b.natAbs)).1, .bool (res 9223372036854775808 (Nat.gcd a.natAbs b.natAbs)).2]) ∧ Drawn0 w w' :=
  PNums.whole_Gcd_int.calls (b.natAbs + 3) a b _ _ w (prog_all (neg := fun x => wrap64 (-x)) (f := PNums.whole_Gcd_int.f) (j0 := PNums.whole_Gcd_int.j0) (j1 := PNums.whole_Gcd_int.j1) (l0 := PNums.whole_Gcd_int.l0) 9223372036854775808 (by omega) (fun x hx => by unfold wrap64; split <;> omega) (fun x h0 h1 => by unfold wrap64; omega)
    (fun _ _ _ => rfl) (fun _ _ _ => by rw [PNums.whole_Gcd_int.j0]) (fun _ _ _ => by rw [PNums.whole_Gcd_int.j1]) (fun _ _ _ => by rw [PNums.whole_Gcd_int.l0]; rfl) a b (by omega) (by omega) (by omega) (by omega) (b.natAbs + 3) (by omega))
theorem tmod0 {a g : Int} (h : g ∣ a) : Int.tmod a g = 0 := Int.tmod_eq_zero_of_dvd h
theorem dvd_of_tmod0 {a g : Int} (h : Int.tmod a g = 0) : g ∣ a := Int.dvd_of_tmod_eq_zero h
theorem gcd_dvd (a b : Int) : ((Nat.gcd a.natAbs b.natAbs : Nat) : Int) ∣ a ∧ ((Nat.gcd a.natAbs b.natAbs : Nat) : Int) ∣ b :=
  ⟨Int.ofNat_dvd_left.2 (Nat.gcd_dvd_left _ _), Int.ofNat_dvd_left.2 (Nat.gcd_dvd_right _ _)⟩
theorem dvd_gcd (a b d : Int) (ha : d ∣ a) (hb : d ∣ b) : d ∣ ((Nat.gcd a.natAbs b.natAbs : Nat) : Int) := by
  rw [← Int.natAbs_dvd_natAbs] at ha hb
  rw [← Int.natAbs_dvd_natAbs, Int.natAbs_natCast]
  exact Nat.dvd_gcd ha hb
set_option maxHeartbeats 4000000 in
set_option maxRecDepth 100000 in
theorem lawA1 (d : Int) (w : World) (hp : Pow w) :
    Calls Tryd.prog 6 #[.int .i64 (-9223372036854775808), .int .i64 (-9223372036854775808), .int .i64 d] w fun e w' => e = .returned (.bool true) ∧ Below w.heap.size w w' := by
  have g1 := fun (W : World) => gcdI (-9223372036854775808) (-9223372036854775808) (by omega) (by omega) (by omega) (by omega) W
  have g2 := fun (W : World) => gcdI (-9223372036854775808) (-9223372036854775808) (by omega) (by omega) (by omega) (by omega) W
  have e1 : res 9223372036854775808 (Nat.gcd (Int.natAbs (-9223372036854775808)) (Int.natAbs (-9223372036854775808))) = (0, false) := by decide +kernel
  have e2 : res 9223372036854775808 (Nat.gcd (Int.natAbs (-9223372036854775808)) (Int.natAbs (-9223372036854775808))) = (0, false) := by decide +kernel
  rw [e1] at g1
  rw [e2] at g2
  clear e1 e2
  have al : ∀ W : World, Below w.heap.size w W → Calls Tryd.prog 14 #[] W fun e w' => e = .returned (.bool true) ∧ Below W.heap.size W w' := fun W hb => alive W (hp.on hb)
  have G1 := Lib.hid g1; have G2 := Lib.hid g2; have AL := Lib.hid al
  clear g1 g2 al hp
  go_enter Tryd.func6, Tryd.ntmps6
  go_wp2_with (first
    | (go_at_call 14; refine (AL.out _ (Below.refl _ _)).mono ?_; rintro e w' ⟨rfl, ha⟩)
    | (go_at_call 22; with_reducible refine (G1.out _).mono ?_; rintro e w' ⟨rfl, ⟨nd, rfl⟩⟩)
    | (go_at_call 22; with_reducible refine (G2.out _).mono ?_; rintro e w' ⟨rfl, ⟨nd, rfl⟩⟩))
  go_ret
  exact ⟨rfl, by repeat (first | exact ha | apply pw_below_drewN)⟩
set_option maxHeartbeats 4000000 in
set_option maxRecDepth 100000 in
theorem lawA2 (d : Int) (w : World) (hp : Pow w) :
    Calls Tryd.prog 6 #[.int .i64 (-9223372036854775808), .int .i64 (0), .int .i64 d] w fun e w' => e = .returned (.bool true) ∧ Below w.heap.size w w' := by
  have g1 := fun (W : World) => gcdI (-9223372036854775808) (0) (by omega) (by omega) (by omega) (by omega) W
  have g2 := fun (W : World) => gcdI (0) (-9223372036854775808) (by omega) (by omega) (by omega) (by omega) W
  have e1 : res 9223372036854775808 (Nat.gcd (Int.natAbs (-9223372036854775808)) (Int.natAbs (0))) = (0, false) := by decide +kernel
  have e2 : res 9223372036854775808 (Nat.gcd (Int.natAbs (0)) (Int.natAbs (-9223372036854775808))) = (0, false) := by decide +kernel
  rw [e1] at g1
  rw [e2] at g2
  clear e1 e2
  have al : ∀ W : World, Below w.heap.size w W → Calls Tryd.prog 14 #[] W fun e w' => e = .returned (.bool true) ∧ Below W.heap.size W w' := fun W hb => alive W (hp.on hb)
  have G1 := Lib.hid g1; have G2 := Lib.hid g2; have AL := Lib.hid al
  clear g1 g2 al hp
  go_enter Tryd.func6, Tryd.ntmps6
  go_wp2_with (first
    | (go_at_call 14; refine (AL.out _ (Below.refl _ _)).mono ?_; rintro e w' ⟨rfl, ha⟩)
    | (go_at_call 22; with_reducible refine (G1.out _).mono ?_; rintro e w' ⟨rfl, ⟨nd, rfl⟩⟩)
    | (go_at_call 22; with_reducible refine (G2.out _).mono ?_; rintro e w' ⟨rfl, ⟨nd, rfl⟩⟩))
  go_ret
  exact ⟨rfl, by repeat (first | exact ha | apply pw_below_drewN)⟩
set_option maxHeartbeats 4000000 in
set_option maxRecDepth 100000 in
theorem lawA3 (d : Int) (w : World) (hp : Pow w) :
    Calls Tryd.prog 6 #[.int .i64 (0), .int .i64 (-9223372036854775808), .int .i64 d] w fun e w' => e = .returned (.bool true) ∧ Below w.heap.size w w' := by
  have g1 := fun (W : World) => gcdI (0) (-9223372036854775808) (by omega) (by omega) (by omega) (by omega) W
  have g2 := fun (W : World) => gcdI (-9223372036854775808) (0) (by omega) (by omega) (by omega) (by omega) W
  have e1 : res 9223372036854775808 (Nat.gcd (Int.natAbs (0)) (Int.natAbs (-9223372036854775808))) = (0, false) := by decide +kernel
  have e2 : res 9223372036854775808 (Nat.gcd (Int.natAbs (-9223372036854775808)) (Int.natAbs (0))) = (0, false) := by decide +kernel
  rw [e1] at g1
  rw [e2] at g2
  clear e1 e2
  have al : ∀ W : World, Below w.heap.size w W → Calls Tryd.prog 14 #[] W fun e w' => e = .returned (.bool true) ∧ Below W.heap.size W w' := fun W hb => alive W (hp.on hb)
  have G1 := Lib.hid g1; have G2 := Lib.hid g2; have AL := Lib.hid al
  clear g1 g2 al hp
  go_enter Tryd.func6, Tryd.ntmps6
  go_wp2_with (first
    | (go_at_call 14; refine (AL.out _ (Below.refl _ _)).mono ?_; rintro e w' ⟨rfl, ha⟩)
    | (go_at_call 22; with_reducible refine (G1.out _).mono ?_; rintro e w' ⟨rfl, ⟨nd, rfl⟩⟩)
    | (go_at_call 22; with_reducible refine (G2.out _).mono ?_; rintro e w' ⟨rfl, ⟨nd, rfl⟩⟩))
  go_ret
  exact ⟨rfl, by repeat (first | exact ha | apply pw_below_drewN)⟩
set_option maxHeartbeats 4000000 in
set_option maxRecDepth 100000 in
theorem lawB (d : Int) (w : World) (hp : Pow w) :
    Calls Tryd.prog 6 #[.int .i64 0, .int .i64 0, .int .i64 d] w fun e w' => e = .returned (.bool true) ∧ Below w.heap.size w w' := by
  have g1 := fun (W : World) => gcdI 0 0 (by omega) (by omega) (by omega) (by omega) W
  have e1 : res 9223372036854775808 (Nat.gcd (Int.natAbs 0) (Int.natAbs 0)) = (0, true) := by decide +kernel
  rw [e1] at g1
  clear e1
  have al : ∀ W : World, Below w.heap.size w W → Calls Tryd.prog 14 #[] W fun e w' => e = .returned (.bool true) ∧ Below W.heap.size W w' := fun W hb => alive W (hp.on hb)
  have G1 := Lib.hid g1; have AL := Lib.hid al
  clear g1 al hp
  go_enter Tryd.func6, Tryd.ntmps6
  go_wp2_with (first
    | (go_at_call 14; refine (AL.out _ (Below.refl _ _)).mono ?_; rintro e w' ⟨rfl, ha⟩)
    | (go_at_call 22; with_reducible refine (G1.out _).mono ?_; rintro e w' ⟨rfl, ⟨nd, rfl⟩⟩))
  go_ret
  exact ⟨rfl, by repeat (first | exact ha | apply pw_below_drewN)⟩
set_option maxHeartbeats 4000000 in
set_option maxRecDepth 100000 in
theorem lawC0 (a b d : Int) (a0 : -9223372036854775808 ≤ a) (a1 : a ≤ 9223372036854775807) (b0 : -9223372036854775808 ≤ b) (b1 : b ≤ 9223372036854775807) (g : Int) (hg0 : 0 < g) (hg1 : g ≤ 9223372036854775807) (hg : res 9223372036854775808 (Nat.gcd a.natAbs b.natAbs) = (g, true)) (ha : Int.tmod a g = 0) (hb : Int.tmod b g = 0) (hd : d = 0) (w : World) (hp : Pow w) :
    Calls Tryd.prog 6 #[.int .i64 a, .int .i64 b, .int .i64 d] w fun e w' => e = .returned (.bool true) ∧ Below w.heap.size w w' := by
  have g1 := fun (W : World) => gcdI a b a0 a1 b0 b1 W
  have g2 := fun (W : World) => gcdI b a b0 b1 a0 a1 W
  simp only [Nat.gcd_comm b.natAbs a.natAbs] at g2
  rw [hg] at g1 g2
  clear hg
  have ta : (Int.tmod a g != 0) = false := by rw [ha]; rfl
  have tb : (Int.tmod b g != 0) = false := by rw [hb]; rfl
  subst hd
  clear ha hb a0 a1 b0 b1
  have al : ∀ W : World, Below w.heap.size w W → Calls Tryd.prog 14 #[] W fun e w' => e = .returned (.bool true) ∧ Below W.heap.size W w' := fun W hb => alive W (hp.on hb)
  have G1 := Lib.hid g1; have G2 := Lib.hid g2; have AL := Lib.hid al
  clear g1 g2 al hp
  go_enter Tryd.func6, Tryd.ntmps6
  go_wp2_with (first
    | (go_at_call 14; refine (AL.out _ (Below.refl _ _)).mono ?_; rintro e w' ⟨rfl, ha⟩)
    | (go_at_call 22; with_reducible refine (G1.out _).mono ?_; rintro e w' ⟨rfl, ⟨nd, rfl⟩⟩)
    | (go_at_call 22; with_reducible refine (G2.out _).mono ?_; rintro e w' ⟨rfl, ⟨nd, rfl⟩⟩))
  go_ret
  exact ⟨rfl, by repeat (first | exact ha | apply pw_below_drewN)⟩
set_option maxHeartbeats 4000000 in
set_option maxRecDepth 100000 in
theorem lawC1 (a b d : Int) (a0 : -9223372036854775808 ≤ a) (a1 : a ≤ 9223372036854775807) (b0 : -9223372036854775808 ≤ b) (b1 : b ≤ 9223372036854775807) (g : Int) (hg0 : 0 < g) (hg1 : g ≤ 9223372036854775807) (hg : res 9223372036854775808 (Nat.gcd a.natAbs b.natAbs) = (g, true)) (ha : Int.tmod a g = 0) (hb : Int.tmod b g = 0) (hd : d ≠ 0) (hx : Int.tmod a d ≠ 0) (w : World) (hp : Pow w) :
    Calls Tryd.prog 6 #[.int .i64 a, .int .i64 b, .int .i64 d] w fun e w' => e = .returned (.bool true) ∧ Below w.heap.size w w' := by
  have g1 := fun (W : World) => gcdI a b a0 a1 b0 b1 W
  have g2 := fun (W : World) => gcdI b a b0 b1 a0 a1 W
  simp only [Nat.gcd_comm b.natAbs a.natAbs] at g2
  rw [hg] at g1 g2
  clear hg
  have ta : (Int.tmod a g != 0) = false := by rw [ha]; rfl
  have tb : (Int.tmod b g != 0) = false := by rw [hb]; rfl
  have t1 : (Int.tmod a d != 0) = true := by simpa using hx
  have hd' : (d == 0) = false := by simpa using hd
  clear hx
  clear ha hb a0 a1 b0 b1
  have al : ∀ W : World, Below w.heap.size w W → Calls Tryd.prog 14 #[] W fun e w' => e = .returned (.bool true) ∧ Below W.heap.size W w' := fun W hb => alive W (hp.on hb)
  have G1 := Lib.hid g1; have G2 := Lib.hid g2; have AL := Lib.hid al
  clear g1 g2 al hp
  go_enter Tryd.func6, Tryd.ntmps6
  go_wp2_with (first
    | (go_at_call 14; refine (AL.out _ (Below.refl _ _)).mono ?_; rintro e w' ⟨rfl, ha⟩)
    | (go_at_call 22; with_reducible refine (G1.out _).mono ?_; rintro e w' ⟨rfl, ⟨nd, rfl⟩⟩)
    | (go_at_call 22; with_reducible refine (G2.out _).mono ?_; rintro e w' ⟨rfl, ⟨nd, rfl⟩⟩))
  go_ret
  exact ⟨rfl, by repeat (first | exact ha | apply pw_below_drewN)⟩
set_option maxHeartbeats 4000000 in
set_option maxRecDepth 100000 in
theorem lawC2 (a b d : Int) (a0 : -9223372036854775808 ≤ a) (a1 : a ≤ 9223372036854775807) (b0 : -9223372036854775808 ≤ b) (b1 : b ≤ 9223372036854775807) (g : Int) (hg0 : 0 < g) (hg1 : g ≤ 9223372036854775807) (hg : res 9223372036854775808 (Nat.gcd a.natAbs b.natAbs) = (g, true)) (ha : Int.tmod a g = 0) (hb : Int.tmod b g = 0) (hd : d ≠ 0) (hx : Int.tmod a d = 0) (hy : Int.tmod b d ≠ 0) (w : World) (hp : Pow w) :
    Calls Tryd.prog 6 #[.int .i64 a, .int .i64 b, .int .i64 d] w fun e w' => e = .returned (.bool true) ∧ Below w.heap.size w w' := by
  have g1 := fun (W : World) => gcdI a b a0 a1 b0 b1 W
  have g2 := fun (W : World) => gcdI b a b0 b1 a0 a1 W
  simp only [Nat.gcd_comm b.natAbs a.natAbs] at g2
  rw [hg] at g1 g2
  clear hg
  have ta : (Int.tmod a g != 0) = false := by rw [ha]; rfl
  have tb : (Int.tmod b g != 0) = false := by rw [hb]; rfl
  have t1 : (Int.tmod a d != 0) = false := by rw [hx]; rfl
  have t2 : (Int.tmod b d != 0) = true := by simpa using hy
  have hd' : (d == 0) = false := by simpa using hd
  clear hx hy
  clear ha hb a0 a1 b0 b1
  have al : ∀ W : World, Below w.heap.size w W → Calls Tryd.prog 14 #[] W fun e w' => e = .returned (.bool true) ∧ Below W.heap.size W w' := fun W hb => alive W (hp.on hb)
  have G1 := Lib.hid g1; have G2 := Lib.hid g2; have AL := Lib.hid al
  clear g1 g2 al hp
  go_enter Tryd.func6, Tryd.ntmps6
  go_wp2_with (first
    | (go_at_call 14; refine (AL.out _ (Below.refl _ _)).mono ?_; rintro e w' ⟨rfl, ha⟩)
    | (go_at_call 22; with_reducible refine (G1.out _).mono ?_; rintro e w' ⟨rfl, ⟨nd, rfl⟩⟩)
    | (go_at_call 22; with_reducible refine (G2.out _).mono ?_; rintro e w' ⟨rfl, ⟨nd, rfl⟩⟩))
  go_ret
  exact ⟨rfl, by repeat (first | exact ha | apply pw_below_drewN)⟩
set_option maxHeartbeats 4000000 in
set_option maxRecDepth 100000 in
theorem lawC3 (a b d : Int) (a0 : -9223372036854775808 ≤ a) (a1 : a ≤ 9223372036854775807) (b0 : -9223372036854775808 ≤ b) (b1 : b ≤ 9223372036854775807) (g : Int) (hg0 : 0 < g) (hg1 : g ≤ 9223372036854775807) (hg : res 9223372036854775808 (Nat.gcd a.natAbs b.natAbs) = (g, true)) (ha : Int.tmod a g = 0) (hb : Int.tmod b g = 0) (hd : d ≠ 0) (hx : Int.tmod a d = 0) (hy : Int.tmod b d = 0) (hz : Int.tmod g d = 0) (w : World) (hp : Pow w) :
    Calls Tryd.prog 6 #[.int .i64 a, .int .i64 b, .int .i64 d] w fun e w' => e = .returned (.bool true) ∧ Below w.heap.size w w' := by
  have g1 := fun (W : World) => gcdI a b a0 a1 b0 b1 W
  have g2 := fun (W : World) => gcdI b a b0 b1 a0 a1 W
  simp only [Nat.gcd_comm b.natAbs a.natAbs] at g2
  rw [hg] at g1 g2
  clear hg
  have ta : (Int.tmod a g != 0) = false := by rw [ha]; rfl
  have tb : (Int.tmod b g != 0) = false := by rw [hb]; rfl
  have t1 : (Int.tmod a d != 0) = false := by rw [hx]; rfl
  have t2 : (Int.tmod b d != 0) = false := by rw [hy]; rfl
  have t3 : (Int.tmod g d == 0) = true := by rw [hz]; rfl
  have t4 : (g % d == 0) = true := by rw [Int.emod_eq_zero_of_dvd (dvd_of_tmod0 hz)]; rfl
  have hd' : (d == 0) = false := by simpa using hd
  clear hx hy hz
  clear ha hb a0 a1 b0 b1
  have al : ∀ W : World, Below w.heap.size w W → Calls Tryd.prog 14 #[] W fun e w' => e = .returned (.bool true) ∧ Below W.heap.size W w' := fun W hb => alive W (hp.on hb)
  have G1 := Lib.hid g1; have G2 := Lib.hid g2; have AL := Lib.hid al
  clear g1 g2 al hp
  go_enter Tryd.func6, Tryd.ntmps6
  go_wp2_with (first
    | (go_at_call 14; refine (AL.out _ (Below.refl _ _)).mono ?_; rintro e w' ⟨rfl, ha⟩)
    | (go_at_call 22; with_reducible refine (G1.out _).mono ?_; rintro e w' ⟨rfl, ⟨nd, rfl⟩⟩)
    | (go_at_call 22; with_reducible refine (G2.out _).mono ?_; rintro e w' ⟨rfl, ⟨nd, rfl⟩⟩))
  go_ret
  exact ⟨rfl, by repeat (first | exact ha | apply pw_below_drewN)⟩
theorem law (a b d : Int) (ha : (Lit.int .i64 a).wf = true) (hb : (Lit.int .i64 b).wf = true) (w : World) (hp : Pow w) :
    Calls Tryd.prog 6 #[.int .i64 a, .int .i64 b, .int .i64 d] w fun e w' => e = .returned (.bool true) ∧ Below w.heap.size w w' := by
  simp [Lit.wf, IntKind.min, IntKind.max, IntKind.signed, IntKind.bits] at ha hb
  obtain ⟨a0, a1⟩ := ha
  obtain ⟨b0, b1⟩ := hb
  obtain ⟨da, db⟩ := gcd_dvd a b
  have dg := dvd_gcd a b
  have hle := gcd_le (a := a.natAbs) (b := b.natAbs) (lim := 9223372036854775808) (by omega) (by omega)
  by_cases h1 : Nat.gcd a.natAbs b.natAbs = 9223372036854775808
  · have n0 : Nat.gcd a.natAbs b.natAbs ≠ 0 := by omega
    have ha := Nat.gcd_dvd_left a.natAbs b.natAbs
    have hb := Nat.gcd_dvd_right a.natAbs b.natAbs
    rw [h1] at ha hb
    have ca : a = 0 ∨ a = -9223372036854775808 := by
      by_cases c : a.natAbs = 0
      · omega
      · have := Nat.le_of_dvd (by omega) ha; omega
    have cb : b = 0 ∨ b = -9223372036854775808 := by
      by_cases c : b.natAbs = 0
      · omega
      · have := Nat.le_of_dvd (by omega) hb; omega
    rcases ca with rfl | rfl <;> rcases cb with rfl | rfl
    · simp at h1
    · exact lawA3 d w hp
    · exact lawA2 d w hp
    · exact lawA1 d w hp
  · by_cases h2 : Nat.gcd a.natAbs b.natAbs = 0
    · have := Nat.gcd_eq_zero_iff.1 h2
      obtain rfl : a = 0 := by omega
      obtain rfl : b = 0 := by omega
      exact lawB d w hp
    · have hg : res 9223372036854775808 (Nat.gcd a.natAbs b.natAbs) = (((Nat.gcd a.natAbs b.natAbs : Nat) : Int), true) := if_neg h1
      by_cases hd : d = 0
      · exact lawC0 a b d a0 (by omega) b0 (by omega) _ (by omega) (by omega) hg (tmod0 da) (tmod0 db) hd w hp
      · by_cases hx : Int.tmod a d = 0
        · by_cases hy : Int.tmod b d = 0
          · exact lawC3 a b d a0 (by omega) b0 (by omega) _ (by omega) (by omega) hg (tmod0 da) (tmod0 db) hd hx hy (tmod0 (dg d (dvd_of_tmod0 hx) (dvd_of_tmod0 hy))) w hp
          · exact lawC2 a b d a0 (by omega) b0 (by omega) _ (by omega) (by omega) hg (tmod0 da) (tmod0 db) hd hx hy w hp
        · exact lawC1 a b d a0 (by omega) b0 (by omega) _ (by omega) (by omega) hg (tmod0 da) (tmod0 db) hd hx w hp
end Go.Proofs.YtnghjojddhdlkaaDoor.CommonWalk
