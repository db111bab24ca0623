/- The machine side of WholeWidths and its plain law: narrow kinds beside wide ones. -/
import Derived.Test.YtnghjojddhdlkaaDoorAlive
import Derived.Test.YtnghjojddhdlkaaDoorMath
import Derived.Test.YtnghjojddhdlkaaDoorSumsPlain
import Derived.Test.YtnghjojddhdlkaaDoorGcdPlain
namespace Go.Proofs.YtnghjojddhdlkaaDoor.WidthsWalk
open Go.RowKit Go.Proofs.YtnghjojddhdlkaaDoorW.PrintWords Go.Proofs.YtnghjojddhdlkaaDoor.Alive Go.Proofs.YtnghjojddhdlkaaDoor.Math Go.Proofs.YtnghjojddhdlkaaDoor.SumsPlain Go.Proofs.YtnghjojddhdlkaaDoor.GcdPlain
set_option linter.unusedVariables false
set_option linter.unusedSimpArgs false
def fitV (lim : Int) (x : Int) : Int := if -lim ≤ x ∧ x < lim then x else 0
def fitB (lim : Int) (x : Int) : Bool := decide (-lim ≤ x ∧ x < lim)
theorem fits16 (x : Int) (w : World) : Calls Tryd.prog 30 #[.int .i64 x] w fun e w' => e = .returned (.tuple #[.int .i16 (fitV 32768 x), .bool (fitB 32768 x)]) ∧ Drawn0 w w' := by
  refine PNums.whole_Fits_int16.calls x _ _ w ?_
  unfold PNums.whole_Fits_int16.f fitV fitB
  have hb : wrap64 (IntKind.i16.wrap x) = IntKind.i16.wrap x := by rw [i16_wrap]; unfold wrap64; omega
  rw [hb]
  by_cases h : -32768 ≤ x ∧ x < 32768
  · have e : IntKind.i16.wrap x = x := by rw [i16_wrap]; omega
    rw [if_pos h, e, if_pos rfl, decide_eq_true h]
  · rw [if_neg h, if_neg (by rw [i16_wrap]; omega), decide_eq_false h]
theorem mul_bd (a b : Int) (a0 : -32768 ≤ a) (a1 : a ≤ 32767) (b0 : -32768 ≤ b) (b1 : b ≤ 32767) : -1073741824 ≤ a * b ∧ a * b ≤ 1073741824 := by
  have h : (a * b).natAbs ≤ 32768 * 32768 := by rw [Int.natAbs_mul]; exact Nat.mul_le_mul (by omega) (by omega)
  omega
set_option maxHeartbeats 4000000 in
set_option maxRecDepth 100000 in
theorem law (a b : Int) (ha : (Lit.int .i16 a).wf = true) (hb : (Lit.int .i16 b).wf = true) (w : World) (hp : Pow w) :
    Calls Tryd.prog 9 #[.int .i16 a, .int .i16 b] w fun e w' => e = .returned (.bool true) ∧ Below w.heap.size w w' := by
  simp [Lit.wf, IntKind.min, IntKind.max, IntKind.signed, IntKind.bits] at ha hb
  obtain ⟨a0, a1⟩ := ha; obtain ⟨b0, b1⟩ := hb
  obtain ⟨p0, p1⟩ := mul_bd a b a0 (by omega) b0 (by omega)
  have c25 : ∀ W : World, Calls Tryd.prog 25 #[.int .i16 a, .int .i16 b] W fun e w' => e = .returned (.tuple #[.int .i16 (fitV 32768 (a + b)), .bool (fitB 32768 (a + b))]) ∧ Drawn0 W w' := fun W =>
    PNums.whole_Add_int16.calls a b _ _ W ((add_of wr16 (by omega) a b a0 (by omega) b0 (by omega)).trans (by unfold addR fitV fitB; split <;> simp_all))
  have c26 : ∀ W : World, Calls Tryd.prog 26 #[.int .i16 a, .int .i16 b] W fun e w' => e = .returned (.tuple #[.int .i16 (fitV 32768 (a * b)), .bool (fitB 32768 (a * b))]) ∧ Drawn0 W w' := fun W =>
    PNums.whole_Mul_int16.calls 1 a b _ _ W ((mul_of wr16 (by omega) a b a0 (by omega) b0 (by omega) PNums.whole_Mul_int16.j0 (fun _ _ _ _ => by rw [PNums.whole_Mul_int16.j0]) 0).trans (by unfold mulR fitV fitB; split <;> simp_all))
  have c28 : ∀ W : World, Calls Tryd.prog 28 #[.int .i64 a, .int .i64 b] W fun e w' => e = .returned (.tuple #[.int .i64 (a + b), .bool true]) ∧ Drawn0 W w' := fun W =>
    PNums.whole_Add_int.calls a b _ _ W ((add_of wr64 (by omega) a b (by omega) (by omega) (by omega) (by omega)).trans (by unfold addR; rw [if_pos (by omega)]))
  have c29 : ∀ W : World, Calls Tryd.prog 29 #[.int .i64 a, .int .i64 b] W fun e w' => e = .returned (.tuple #[.int .i64 (a * b), .bool true]) ∧ Drawn0 W w' := fun W =>
    PNums.whole_Mul_int.calls 1 a b _ _ W ((mul_of wr64 (by omega) a b (by omega) (by omega) (by omega) (by omega) PNums.whole_Mul_int.j0 (fun _ _ _ _ => by rw [PNums.whole_Mul_int.j0]) 0).trans (by unfold mulR; rw [if_pos (by omega)]))
  have g16 := prog_all (neg := fun x => IntKind.i16.wrap (-x)) (f := PNums.whole_Gcd_int16.f) (j0 := PNums.whole_Gcd_int16.j0) (j1 := PNums.whole_Gcd_int16.j1) (l0 := PNums.whole_Gcd_int16.l0) 32768 (by omega) (fun x hx => by rw [i16_wrap]; split <;> omega) (fun x h0 h1 => by rw [i16_wrap]; omega)
    (fun _ _ _ => rfl) (fun _ _ _ => by rw [PNums.whole_Gcd_int16.j0]) (fun _ _ _ => by rw [PNums.whole_Gcd_int16.j1]) (fun _ _ _ => by rw [PNums.whole_Gcd_int16.l0]; rfl) a b (by omega) (by omega) (by omega) (by omega) (b.natAbs + 3) (by omega)
  have gI := prog_all (neg := fun x => wrap64 (-x)) (f := PNums.whole_Gcd_int.f) (j0 := PNums.whole_Gcd_int.j0) (j1 := PNums.whole_Gcd_int.j1) (l0 := PNums.whole_Gcd_int.l0) 9223372036854775808 (by omega) (fun x hx => by unfold wrap64; split <;> omega) (fun x h0 h1 => by unfold wrap64; omega)
    (fun _ _ _ => rfl) (fun _ _ _ => by rw [PNums.whole_Gcd_int.j0]) (fun _ _ _ => by rw [PNums.whole_Gcd_int.j1]) (fun _ _ _ => by rw [PNums.whole_Gcd_int.l0]; rfl) a b (by omega) (by omega) (by omega) (by omega) (b.natAbs + 3) (by omega)
  have hg := gcd_le (a := a.natAbs) (b := b.natAbs) (lim := 32768) (by omega) (by omega)
  generalize hG : Nat.gcd a.natAbs b.natAbs = G at g16 gI hg
  clear hG
  have c27 : ∀ W : World, Calls Tryd.prog 27 #[.int .i16 a, .int .i16 b] W fun e w' => e = .returned (.tuple #[.int .i16 (fitV 32768 (G : Int)), .bool (fitB 32768 (G : Int))]) ∧ Drawn0 W w' := fun W =>
    PNums.whole_Gcd_int16.calls _ a b _ _ W (g16.trans (by unfold res fitV fitB; by_cases h : G = 32768
                                                           · subst h; rfl
                                                           · rw [if_neg h, if_pos (by omega), decide_eq_true (by omega)]))
  have c22 : ∀ W : World, Calls Tryd.prog 22 #[.int .i64 a, .int .i64 b] W fun e w' => e = .returned (.tuple #[.int .i64 (G : Int), .bool true]) ∧ Drawn0 W w' := fun W =>
    PNums.whole_Gcd_int.calls _ a b _ _ W (gI.trans (by unfold res; rw [if_neg (by omega)]))
  have f1 := fun (W : World) => fits16 (a + b) W
  have f2 := fun (W : World) => fits16 (a * b) W
  have f3 := fun (W : World) => fits16 (G : Int) W
  clear g16 gI
  have al : ∀ W : World, Below w.heap.size w W → Calls Tryd.prog 14 #[] W fun e w' => e = .returned (.bool true) ∧ Below W.heap.size W w' := fun W hb => alive W (hp.on hb)
  have C25 := Lib.hid c25; have C26 := Lib.hid c26; have C27 := Lib.hid c27; have C28 := Lib.hid c28; have C29 := Lib.hid c29; have C22 := Lib.hid c22; have F1 := Lib.hid f1; have F2 := Lib.hid f2; have F3 := Lib.hid f3; have AL := Lib.hid al
  clear c25 c26 c27 c28 c29 c22 f1 f2 f3 al hp
  go_enter Tryd.func9, Tryd.ntmps9
  go_wp2_with (first
    | (go_at_call 14; refine (AL.out _ (Below.refl _ _)).mono ?_; rintro e w' ⟨rfl, ha⟩)
    | (go_at_call 25; refine (C25.out _).mono ?_; rintro e w' ⟨rfl, ⟨nd, rfl⟩⟩)
    | (go_at_call 26; refine (C26.out _).mono ?_; rintro e w' ⟨rfl, ⟨nd, rfl⟩⟩)
    | (go_at_call 27; refine (C27.out _).mono ?_; rintro e w' ⟨rfl, ⟨nd, rfl⟩⟩)
    | (go_at_call 28; refine (C28.out _).mono ?_; rintro e w' ⟨rfl, ⟨nd, rfl⟩⟩)
    | (go_at_call 29; refine (C29.out _).mono ?_; rintro e w' ⟨rfl, ⟨nd, rfl⟩⟩)
    | (go_at_call 22; refine (C22.out _).mono ?_; rintro e w' ⟨rfl, ⟨nd, rfl⟩⟩)
    | (go_at_call 30; with_reducible refine (F1.out _).mono ?_; rintro e w' ⟨rfl, ⟨nd, rfl⟩⟩)
    | (go_at_call 30; with_reducible refine (F2.out _).mono ?_; rintro e w' ⟨rfl, ⟨nd, rfl⟩⟩)
    | (go_at_call 30; with_reducible refine (F3.out _).mono ?_; rintro e w' ⟨rfl, ⟨nd, rfl⟩⟩))
  go_ret
  exact ⟨rfl, by repeat (first | exact ha | apply pw_below_drewN)⟩
end Go.Proofs.YtnghjojddhdlkaaDoor.WidthsWalk
