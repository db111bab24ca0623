/- The machine side of WholeSums: sums and products of seven kinds and the reference's. -/
import Derived.Test.YtnghjojddhdlkaaPWholeSumsx1
import Derived.Test.YtnghjojddhdlkaaPWholeSumsx2
import Derived.Test.YtnghjojddhdlkaaPWholeGcdsx
import Derived.Test.YtnghjojddhdlkaaPureWholeGcds
import Derived.Test.YtnghjojddhdlkaaSumsPlain
import Derived.Lib.Hide
namespace Go.Proofs.Ytnghjojddhdlkaa.Sums
open Go.RowKit Go.Proofs.Ytnghjojddhdlkaa.Math Go.Proofs.Ytnghjojddhdlkaa.SumsPlain Go.Proofs.YtnghjojddhdlkaaW.PrintWords
set_option linter.unusedVariables false
set_option linter.unusedSimpArgs false

/-- The parts of an answer, not laid open. -/
def addV (lim a b : Int) : Int := (addR lim a b).1
def addB (lim a b : Int) : Bool := (addR lim a b).2
def mulV (lim a b : Int) : Int := (mulR lim a b).1
def mulB (lim a b : Int) : Bool := (mulR lim a b).2
theorem addV_bd (lim a b : Int) (h : 0 < lim) : -lim ≤ addV lim a b ∧ addV lim a b ≤ lim - 1 := by unfold addV addR; split <;> dsimp only <;> omega
theorem mulV_bd (lim a b : Int) (h : 0 < lim) : -lim ≤ mulV lim a b ∧ mulV lim a b ≤ lim - 1 := by unfold mulV mulR; split <;> dsimp only <;> omega

theorem add8 (a b : Int) (a0 : -128 ≤ a) (a1 : a ≤ 127) (b0 : -128 ≤ b) (b1 : b ≤ 127) (w : World) : Calls Try.prog 30 #[.int .i8 a, .int .i8 b] w fun e w' => e = .returned (.tuple #[.int .i8 (addV 128 a b), .bool (addB 128 a b)]) ∧ Drawn0 w w' :=
  PWholeSums.whole_Add_int8.calls a b _ _ w (add_of wr8 (by omega) a b a0 (by omega) b0 (by omega))

theorem add16 (a b : Int) (a0 : -32768 ≤ a) (a1 : a ≤ 32767) (b0 : -32768 ≤ b) (b1 : b ≤ 32767) (w : World) : Calls Try.prog 31 #[.int .i16 a, .int .i16 b] w fun e w' => e = .returned (.tuple #[.int .i16 (addV 32768 a b), .bool (addB 32768 a b)]) ∧ Drawn0 w w' :=
  PWholeSums.whole_Add_int16.calls a b _ _ w (add_of wr16 (by omega) a b a0 (by omega) b0 (by omega))

theorem add32 (a b : Int) (a0 : -2147483648 ≤ a) (a1 : a ≤ 2147483647) (b0 : -2147483648 ≤ b) (b1 : b ≤ 2147483647) (w : World) : Calls Try.prog 32 #[.int .i32 a, .int .i32 b] w fun e w' => e = .returned (.tuple #[.int .i32 (addV 2147483648 a b), .bool (addB 2147483648 a b)]) ∧ Drawn0 w w' :=
  PWholeSums.whole_Add_int32.calls a b _ _ w (add_of wr32 (by omega) a b a0 (by omega) b0 (by omega))

theorem add64 (a b : Int) (a0 : -9223372036854775808 ≤ a) (a1 : a ≤ 9223372036854775807) (b0 : -9223372036854775808 ≤ b) (b1 : b ≤ 9223372036854775807) (w : World) : Calls Try.prog 33 #[.int .i64 a, .int .i64 b] w fun e w' => e = .returned (.tuple #[.int .i64 (addV 9223372036854775808 a b), .bool (addB 9223372036854775808 a b)]) ∧ Drawn0 w w' :=
  PWholeSums.whole_Add_int64.calls a b _ _ w (add_of wr64 (by omega) a b a0 (by omega) b0 (by omega))

theorem addI (a b : Int) (a0 : -9223372036854775808 ≤ a) (a1 : a ≤ 9223372036854775807) (b0 : -9223372036854775808 ≤ b) (b1 : b ≤ 9223372036854775807) (w : World) : Calls Try.prog 34 #[.int .i64 a, .int .i64 b] w fun e w' => e = .returned (.tuple #[.int .i64 (addV 9223372036854775808 a b), .bool (addB 9223372036854775808 a b)]) ∧ Drawn0 w w' :=
  PWholeSums.whole_Add_int.calls a b _ _ w (add_of wr64 (by omega) a b a0 (by omega) b0 (by omega))

theorem addT (a b : Int) (a0 : -128 ≤ a) (a1 : a ≤ 127) (b0 : -128 ≤ b) (b1 : b ≤ 127) (w : World) : Calls Try.prog 35 #[.int .i8 a, .int .i8 b] w fun e w' => e = .returned (.tuple #[.int .i8 (addV 128 a b), .bool (addB 128 a b)]) ∧ Drawn0 w w' :=
  PWholeSums.vivariumlaw01_Tiny_35.calls a b _ _ w (add_of wr8 (by omega) a b a0 (by omega) b0 (by omega))

theorem addW (a b : Int) (a0 : -9223372036854775808 ≤ a) (a1 : a ≤ 9223372036854775807) (b0 : -9223372036854775808 ≤ b) (b1 : b ≤ 9223372036854775807) (w : World) : Calls Try.prog 36 #[.int .i64 a, .int .i64 b] w fun e w' => e = .returned (.tuple #[.int .i64 (addV 9223372036854775808 a b), .bool (addB 9223372036854775808 a b)]) ∧ Drawn0 w w' :=
  PWholeSums.vivariumlaw01_Wide_36.calls a b _ _ w (add_of wr64 (by omega) a b a0 (by omega) b0 (by omega))

theorem mul8 (a b : Int) (a0 : -128 ≤ a) (a1 : a ≤ 127) (b0 : -128 ≤ b) (b1 : b ≤ 127) (w : World) : Calls Try.prog 50 #[.int .i8 a, .int .i8 b] w fun e w' => e = .returned (.tuple #[.int .i8 (mulV 128 a b), .bool (mulB 128 a b)]) ∧ Drawn0 w w' :=
  PWholeSums.whole_Mul_int8.calls 1 a b _ _ w (mul_of wr8 (by omega) a b a0 (by omega) b0 (by omega) PWholeSums.whole_Mul_int8.j0 (fun _ _ _ _ => by rw [PWholeSums.whole_Mul_int8.j0]) 0)

theorem mul16 (a b : Int) (a0 : -32768 ≤ a) (a1 : a ≤ 32767) (b0 : -32768 ≤ b) (b1 : b ≤ 32767) (w : World) : Calls Try.prog 51 #[.int .i16 a, .int .i16 b] w fun e w' => e = .returned (.tuple #[.int .i16 (mulV 32768 a b), .bool (mulB 32768 a b)]) ∧ Drawn0 w w' :=
  PWholeSums.whole_Mul_int16.calls 1 a b _ _ w (mul_of wr16 (by omega) a b a0 (by omega) b0 (by omega) PWholeSums.whole_Mul_int16.j0 (fun _ _ _ _ => by rw [PWholeSums.whole_Mul_int16.j0]) 0)

theorem mul32 (a b : Int) (a0 : -2147483648 ≤ a) (a1 : a ≤ 2147483647) (b0 : -2147483648 ≤ b) (b1 : b ≤ 2147483647) (w : World) : Calls Try.prog 52 #[.int .i32 a, .int .i32 b] w fun e w' => e = .returned (.tuple #[.int .i32 (mulV 2147483648 a b), .bool (mulB 2147483648 a b)]) ∧ Drawn0 w w' :=
  PWholeSums.whole_Mul_int32.calls 1 a b _ _ w (mul_of wr32 (by omega) a b a0 (by omega) b0 (by omega) PWholeSums.whole_Mul_int32.j0 (fun _ _ _ _ => by rw [PWholeSums.whole_Mul_int32.j0]) 0)

theorem mul64 (a b : Int) (a0 : -9223372036854775808 ≤ a) (a1 : a ≤ 9223372036854775807) (b0 : -9223372036854775808 ≤ b) (b1 : b ≤ 9223372036854775807) (w : World) : Calls Try.prog 53 #[.int .i64 a, .int .i64 b] w fun e w' => e = .returned (.tuple #[.int .i64 (mulV 9223372036854775808 a b), .bool (mulB 9223372036854775808 a b)]) ∧ Drawn0 w w' :=
  PWholeSums.whole_Mul_int64.calls 1 a b _ _ w (mul_of wr64 (by omega) a b a0 (by omega) b0 (by omega) PWholeSums.whole_Mul_int64.j0 (fun _ _ _ _ => by rw [PWholeSums.whole_Mul_int64.j0]) 0)

theorem mulI (a b : Int) (a0 : -9223372036854775808 ≤ a) (a1 : a ≤ 9223372036854775807) (b0 : -9223372036854775808 ≤ b) (b1 : b ≤ 9223372036854775807) (w : World) : Calls Try.prog 54 #[.int .i64 a, .int .i64 b] w fun e w' => e = .returned (.tuple #[.int .i64 (mulV 9223372036854775808 a b), .bool (mulB 9223372036854775808 a b)]) ∧ Drawn0 w w' :=
  PWholeSums.whole_Mul_int.calls 1 a b _ _ w (mul_of wr64 (by omega) a b a0 (by omega) b0 (by omega) PWholeSums.whole_Mul_int.j0 (fun _ _ _ _ => by rw [PWholeSums.whole_Mul_int.j0]) 0)

theorem mulT (a b : Int) (a0 : -128 ≤ a) (a1 : a ≤ 127) (b0 : -128 ≤ b) (b1 : b ≤ 127) (w : World) : Calls Try.prog 55 #[.int .i8 a, .int .i8 b] w fun e w' => e = .returned (.tuple #[.int .i8 (mulV 128 a b), .bool (mulB 128 a b)]) ∧ Drawn0 w w' :=
  PWholeSums.vivariumlaw01_Tiny_55.calls 1 a b _ _ w (mul_of wr8 (by omega) a b a0 (by omega) b0 (by omega) PWholeSums.vivariumlaw01_Tiny_55.j0 (fun _ _ _ _ => by rw [PWholeSums.vivariumlaw01_Tiny_55.j0]) 0)

theorem mulW (a b : Int) (a0 : -9223372036854775808 ≤ a) (a1 : a ≤ 9223372036854775807) (b0 : -9223372036854775808 ≤ b) (b1 : b ≤ 9223372036854775807) (w : World) : Calls Try.prog 56 #[.int .i64 a, .int .i64 b] w fun e w' => e = .returned (.tuple #[.int .i64 (mulV 9223372036854775808 a b), .bool (mulB 9223372036854775808 a b)]) ∧ Drawn0 w w' := by
  unfold mulV mulB mulR
  by_cases ha : a = 0
  · subst ha
    rw [Int.zero_mul, if_pos (by omega)]
    go_enter Try.func56, Try.ntmps56
    go_wp2
    go_ret2
    exact ⟨rfl, Drawn0.refl _⟩
  · have e1 : (a == 0) = false := by simpa using ha
    by_cases hb : b = 0
    · subst hb
      rw [Int.mul_zero, if_pos (by omega)]
      go_enter Try.func56, Try.ntmps56
      go_wp2
      go_ret2
      exact ⟨rfl, Drawn0.refl _⟩
    · have e2 : (b == 0) = false := by simpa using hb
      rcases mul_see wr64 (by omega) a b a0 (by omega) b0 (by omega) ha hb with ⟨h1, h2, h3, h4⟩ | ⟨h1, h2⟩
      · rw [if_pos h1]
        have H2 := Lib.hid h2; clear h2
        have g3 : (wrap64 (Int.tdiv (wrap64 (a * b)) b) != a) = false := by rw [h3]; simp
        have g4 : (wrap64 (Int.tdiv (wrap64 (a * b)) a) != b) = false := by rw [h4]; simp
        clear h3 h4 h1 a0 a1 b0 b1
        go_enter Try.func56, Try.ntmps56
        go_wp2
        go_ret2
        exact ⟨congrArg (fun z => Ending.returned (.tuple #[.int .i64 z, .bool true])) H2.out, Drawn0.refl _⟩
      · rw [if_neg h1]
        have H1 := Lib.hid h1; clear h1
        by_cases h3 : wrap64 (Int.tdiv (wrap64 (a * b)) b) = a
        · have g3 : (wrap64 (Int.tdiv (wrap64 (a * b)) b) != a) = false := by rw [h3]; simp
          have g4 : (wrap64 (Int.tdiv (wrap64 (a * b)) a) != b) = true := by simpa using h2 h3
          clear h3 h2 a0 a1 b0 b1
          go_enter Try.func56, Try.ntmps56
          go_wp2
          go_ret2
          exact ⟨rfl, Drawn0.refl _⟩
        · have g3 : (wrap64 (Int.tdiv (wrap64 (a * b)) b) != a) = true := by simpa using h3
          clear h3 h2 a0 a1 b0 b1
          go_enter Try.func56, Try.ntmps56
          go_wp2
          go_ret2
          exact ⟨rfl, Drawn0.refl _⟩

def fitV (lim : Int) (x : Int) : Int := if -lim ≤ x ∧ x < lim then x else 0
def fitB (lim : Int) (x : Int) : Bool := decide (-lim ≤ x ∧ x < lim)
theorem fitsR (x : Int) (bits lim : Nat) (hb : 1 ≤ bits) (hb' : bits ≤ 64) (hl : 2 ^ (bits - 1) = lim) (hlim : lim ≤ 9223372036854775808) (h0 : 0 < lim) (w : World) :
    Calls Try.prog 29 #[.int .i64 x, .int .i64 bits] w fun e w' => e = .returned (.tuple #[.int .i64 (fitV lim x), .bool (fitB lim x)]) ∧ Drawn0 w w' := by
  refine (PWholeGcds.vivariumref01_Fits.calls 65 x bits (fitV lim x) (fitB lim x) w ?_)
  rw [PureGcds.fits_at x bits hb (by omega) 65 (by omega), hl]
  unfold PureGcds.fitsFin fitV fitB
  have e : wrap64 (wrap64 (-((lim : Int) - 1)) - 1) = -(lim : Int) := by unfold wrap64; omega
  rw [e]
  by_cases h1 : x > (lim : Int) - 1
  · rw [if_pos h1, if_neg (by omega), decide_eq_false (by omega)]
  · rw [if_neg h1]
    by_cases h2 : x < -(lim : Int)
    · rw [if_pos h2, if_neg (by omega), decide_eq_false (by omega)]
    · rw [if_neg h2, if_pos (by omega), decide_eq_true (by omega)]
theorem signed_at (n : Int) (s : Bool) (h0 : 0 ≤ n) (h1 : n ≤ 9223372036854775808) : PWholeGcds.vivariumref01_signed.f 1 n s = some (if s = true then (-n, true) else if n > 9223372036854775807 then (0, false) else (n, true)) := by
  unfold PWholeGcds.vivariumref01_signed.f
  by_cases hs : s = true
  · rw [if_pos hs, PWholeGcds.vivariumref01_signed.j0, if_pos hs]
    by_cases hn : n > 0
    · rw [if_pos (by simpa using hn), if_neg (by omega), u64_wrap]
      congr 2
      unfold wrap64; omega
    · rw [if_neg (by simpa using hn), if_neg (by omega)]
      congr 2
      unfold wrap64; omega
  · rw [if_neg hs, PWholeGcds.vivariumref01_signed.j0, if_neg (by simp), if_neg hs]
    by_cases hn : n > 9223372036854775807
    · rw [if_pos hn, if_pos hn]
    · rw [if_neg hn, if_neg hn]
      congr 2
      unfold wrap64; omega
/-- The product's size and sign. -/
theorem prod_sign (a b : Int) : (if (!(decide (a < 0) == decide (b < 0))) = true then -((a.natAbs * b.natAbs : Nat) : Int) else ((a.natAbs * b.natAbs : Nat) : Int)) = a * b := by
  have hm : ((a.natAbs * b.natAbs : Nat) : Int) = (a.natAbs : Int) * (b.natAbs : Int) := by rw [Int.natCast_mul]
  rw [hm]
  by_cases h1 : a < 0 <;> by_cases h2 : b < 0
  · rw [if_neg (by simp [h1, h2]), show (a.natAbs : Int) = -a by omega, show (b.natAbs : Int) = -b by omega, Int.neg_mul_neg]
  · rw [if_pos (by simp [h1, h2]), show (a.natAbs : Int) = -a by omega, show (b.natAbs : Int) = b by omega, Int.neg_mul, Int.neg_neg]
  · rw [if_pos (by simp [h1, h2]), show (a.natAbs : Int) = a by omega, show (b.natAbs : Int) = -b by omega, Int.mul_neg, Int.neg_neg]
  · rw [if_neg (by simp [h1, h2]), show (a.natAbs : Int) = a by omega, show (b.natAbs : Int) = b by omega]
def in64 (x : Int) : Bool := decide (-9223372036854775808 ≤ x ∧ x < 9223372036854775808)
def val64 (x : Int) : Int := if -9223372036854775808 ≤ x ∧ x < 9223372036854775808 then x else 0
theorem signed_prod (a b : Int) (h : a.natAbs * b.natAbs ≤ 9223372036854775808) (w : World) :
    Calls Try.prog 49 #[.int .u64 (IntKind.u64.wrap ((a.natAbs : Int) * (b.natAbs : Int))), .bool (!(decide (a < 0) == decide (b < 0)))] w fun e w' => e = .returned (.tuple #[.int .i64 (val64 (a * b)), .bool (in64 (a * b))]) ∧ Drawn0 w w' := by
  have hp := prod_sign a b
  have hm : ((a.natAbs * b.natAbs : Nat) : Int) = (a.natAbs : Int) * (b.natAbs : Int) := by rw [Int.natCast_mul]
  have e : IntKind.u64.wrap ((a.natAbs : Int) * (b.natAbs : Int)) = ((a.natAbs * b.natAbs : Nat) : Int) := by rw [u64_wrap, ← hm]; omega
  rw [e]
  refine PWholeGcds.vivariumref01_signed.calls 1 _ _ _ _ w ?_
  rw [signed_at _ _ (by omega) (by omega), ← hp]
  generalize a.natAbs * b.natAbs = n at h
  unfold val64 in64
  by_cases hs : (!(decide (a < 0) == decide (b < 0))) = true
  · rw [if_pos hs, if_pos hs, if_pos (by omega), decide_eq_true (by omega)]
  · rw [if_neg hs, if_neg hs]
    by_cases hn : (n : Int) > 9223372036854775807
    · rw [if_pos hn, if_neg (by omega), decide_eq_false (by omega)]
    · rw [if_neg hn, if_pos (by omega), decide_eq_true (by omega)]
theorem mulV_out (lim a b : Int) (hl : lim ≤ 9223372036854775808) (h : in64 (a * b) = false) : mulV lim a b = 0 ∧ mulB lim a b = false := by
  unfold in64 at h
  have := of_decide_eq_false h
  unfold mulV mulB mulR
  rw [if_neg (by omega)]; exact ⟨rfl, rfl⟩
theorem mulV_in (lim a b : Int) (h : in64 (a * b) = true) : fitV lim (val64 (a * b)) = mulV lim a b ∧ fitB lim (val64 (a * b)) = mulB lim a b := by
  unfold in64 at h
  have := of_decide_eq_true h
  unfold val64 mulV mulB mulR fitV fitB
  rw [if_pos this]
  by_cases h2 : -lim ≤ a * b ∧ a * b < lim
  · rw [if_pos h2, if_pos h2, decide_eq_true h2]; exact ⟨rfl, rfl⟩
  · rw [if_neg h2, if_neg h2, decide_eq_false h2]; exact ⟨rfl, rfl⟩
theorem too_great (X Y : Nat) (h0 : 0 < X) (h : (9223372036854775808 : Int) / X < Y) : 9223372036854775808 < X * Y := by
  have h1 : 9223372036854775808 / X < Y := by
    have : ((9223372036854775808 / X : Nat) : Int) < (Y : Int) := by rw [Int.natCast_ediv]; exact h
    omega
  have h2 := (Nat.div_lt_iff_lt_mul h0).1 h1
  rw [Nat.mul_comm] at h2
  exact h2
theorem not_too_great (X Y : Nat) (h0 : 0 < X) (h : (Y : Int) ≤ (9223372036854775808 : Int) / X) : X * Y ≤ 9223372036854775808 := by
  have h1 : Y ≤ 9223372036854775808 / X := by
    have : (Y : Int) ≤ ((9223372036854775808 / X : Nat) : Int) := by rw [Int.natCast_ediv]; exact h
    omega
  have h2 := (Nat.le_div_iff_mul_le h0).1 h1
  rw [Nat.mul_comm] at h2
  exact h2
theorem in64_great (a b : Int) (h : 9223372036854775808 < a.natAbs * b.natAbs) : in64 (a * b) = false := by
  have hp := prod_sign a b
  unfold in64
  rw [← hp]
  generalize a.natAbs * b.natAbs = n at h
  refine decide_eq_false ?_
  split <;> omega
set_option maxHeartbeats 4000000 in
/-- The reference's product. -/
theorem refMul (a b : Int) (a0 : -9223372036854775808 ≤ a) (a1 : a ≤ 9223372036854775807) (b0 : -9223372036854775808 ≤ b) (b1 : b ≤ 9223372036854775807) (bits lim : Nat) (hb : 1 ≤ bits) (hb' : bits ≤ 64) (hl : 2 ^ (bits - 1) = lim) (hlim : lim ≤ 9223372036854775808) (h0 : 0 < lim) (w : World) :
    Calls Try.prog 57 #[.int .i64 a, .int .i64 b, .int .i64 bits] w fun e w' => e = .returned (.tuple #[.int .i64 (mulV lim a b), .bool (mulB lim a b)]) ∧ Drawn0 w w' := by
  have sa := fun (W : World) => PWholeGcds.vivariumref01_size.calls a (a.natAbs : Int) W (PureGcds.size_at a a0 a1)
  have sb := fun (W : World) => PWholeGcds.vivariumref01_size.calls b (b.natAbs : Int) W (PureGcds.size_at b b0 b1)
  have fr := fun (W : World) => fitsR (val64 (a * b)) bits lim hb hb' hl hlim h0 W
  have lo : ∀ W1 : World, Calls Try.prog 48 #[.int .i64 a] W1 fun e w' => e = .returned (.int .u64 (a.natAbs : Int)) ∧ Drawn0 W1 w' := sa
  have lo' : ∀ W1 : World, Calls Try.prog 48 #[.int .i64 b] W1 fun e w' => e = .returned (.int .u64 (b.natAbs : Int)) ∧ Drawn0 W1 w' := sb
  have SA := Lib.hid lo; have SB := Lib.hid lo'; have FR := Lib.hid fr
  clear sa sb fr lo lo' a0 a1 b0 b1
  obtain ⟨X, hX⟩ : ∃ X : Nat, a.natAbs = X := ⟨_, rfl⟩
  obtain ⟨Y, hY⟩ : ∃ Y : Nat, b.natAbs = Y := ⟨_, rfl⟩
  have small : X * Y ≤ 9223372036854775808 → ∀ W1 : World, Calls Try.prog 49 #[.int .u64 (IntKind.u64.wrap ((X : Int) * (Y : Int))), .bool (!(decide (a < 0) == decide (b < 0)))] W1 fun e w' => e = .returned (.tuple #[.int .i64 (val64 (a * b)), .bool (in64 (a * b))]) ∧ Drawn0 W1 w' := by
    intro h W1
    rw [← hX, ← hY] at h ⊢
    exact signed_prod a b h W1
  rw [hX] at SA
  rw [hY] at SB
  have hgreat : 9223372036854775808 < X * Y → in64 (a * b) = false := fun h => in64_great a b (by rw [hX, hY]; exact h)
  have hXl : (X : Int) * 0 = 0 := by simp
  clear hXl
  have HX := Lib.hid hX; have HY := Lib.hid hY; clear hX hY
  by_cases hg : 0 < X ∧ (9223372036854775808 : Int) / X < Y
  · obtain ⟨hx, hg⟩ := hg
    obtain ⟨hv, hbb⟩ := mulV_out lim a b (by omega) (hgreat (too_great X Y hx hg))
    rw [hv, hbb]
    clear hv hbb hgreat small
    have hx' : 0 < (X : Int) := by omega
    go_enter Try.func57, Try.ntmps57
    go_wp2_with (first | (go_at_call 48; with_reducible refine (SA.out _).mono ?_; rintro e w' ⟨rfl, ⟨nd, rfl⟩⟩) | (go_at_call 48; with_reducible refine (SB.out _).mono ?_; rintro e w' ⟨rfl, ⟨nd, rfl⟩⟩))
    go_ret2
    exact ⟨rfl, by repeat (first | exact Drawn0.refl _ | apply Drawn0.step)⟩
  · have hsm : X * Y ≤ 9223372036854775808 := by
      by_cases hx : X = 0
      · subst hx; rw [Nat.zero_mul]; omega
      · exact not_too_great X Y (by omega) (by have : ¬ ((9223372036854775808 : Int) / X < Y) := fun h => hg ⟨by omega, h⟩; omega)
    have SG := Lib.hid (small hsm)
    clear small hgreat hsm
    have hgg : X = 0 ∨ (0 < X ∧ (Y : Int) ≤ (9223372036854775808 : Int) / X) := by
      by_cases hx : X = 0
      · exact .inl hx
      · exact .inr ⟨by omega, by have : ¬ ((9223372036854775808 : Int) / X < Y) := fun h => hg ⟨by omega, h⟩; omega⟩
    clear hg
    cases hin : in64 (a * b) with
    | false =>
      obtain ⟨hv, hbb⟩ := mulV_out lim a b (by omega) hin
      rw [hv, hbb]
      rw [hin] at SG
      clear hv hbb hin
      rcases hgg with hx | ⟨hx, hg⟩
      · have hx' : ¬ (0 < X) := by omega
        have hx2 : decide (0 < X) = false := by simpa using hx'
        clear hx
        go_enter Try.func57, Try.ntmps57
        go_wp2_with (first | (go_at_call 48; with_reducible refine (SA.out _).mono ?_; rintro e w' ⟨rfl, ⟨nd, rfl⟩⟩) | (go_at_call 48; with_reducible refine (SB.out _).mono ?_; rintro e w' ⟨rfl, ⟨nd, rfl⟩⟩) | (go_at_call 49; refine (SG.out _).mono ?_; rintro e w' ⟨rfl, ⟨nd, rfl⟩⟩))
        go_ret2
        exact ⟨rfl, by repeat (first | exact Drawn0.refl _ | apply Drawn0.step)⟩
      · have hx' : 0 < (X : Int) := by omega
        go_enter Try.func57, Try.ntmps57
        go_wp2_with (first | (go_at_call 48; with_reducible refine (SA.out _).mono ?_; rintro e w' ⟨rfl, ⟨nd, rfl⟩⟩) | (go_at_call 48; with_reducible refine (SB.out _).mono ?_; rintro e w' ⟨rfl, ⟨nd, rfl⟩⟩) | (go_at_call 49; refine (SG.out _).mono ?_; rintro e w' ⟨rfl, ⟨nd, rfl⟩⟩))
        go_ret2
        exact ⟨rfl, by repeat (first | exact Drawn0.refl _ | apply Drawn0.step)⟩
    | true =>
      obtain ⟨hv, hbb⟩ := mulV_in lim a b hin
      rw [hv, hbb] at FR
      rw [hin] at SG
      clear hv hbb hin
      rcases hgg with hx | ⟨hx, hg⟩
      · have hx' : ¬ (0 < X) := by omega
        have hx2 : decide (0 < X) = false := by simpa using hx'
        clear hx
        go_enter Try.func57, Try.ntmps57
        go_wp2_with (first | (go_at_call 48; with_reducible refine (SA.out _).mono ?_; rintro e w' ⟨rfl, ⟨nd, rfl⟩⟩) | (go_at_call 48; with_reducible refine (SB.out _).mono ?_; rintro e w' ⟨rfl, ⟨nd, rfl⟩⟩) | (go_at_call 49; refine (SG.out _).mono ?_; rintro e w' ⟨rfl, ⟨nd, rfl⟩⟩) | (go_at_call 29; refine (FR.out _).mono ?_; rintro e w' ⟨rfl, ⟨nd, rfl⟩⟩))
        go_ret2
        exact ⟨rfl, by repeat (first | exact Drawn0.refl _ | apply Drawn0.step)⟩
      · have hx' : 0 < (X : Int) := by omega
        go_enter Try.func57, Try.ntmps57
        go_wp2_with (first | (go_at_call 48; with_reducible refine (SA.out _).mono ?_; rintro e w' ⟨rfl, ⟨nd, rfl⟩⟩) | (go_at_call 48; with_reducible refine (SB.out _).mono ?_; rintro e w' ⟨rfl, ⟨nd, rfl⟩⟩) | (go_at_call 49; refine (SG.out _).mono ?_; rintro e w' ⟨rfl, ⟨nd, rfl⟩⟩) | (go_at_call 29; refine (FR.out _).mono ?_; rintro e w' ⟨rfl, ⟨nd, rfl⟩⟩))
        go_ret2
        exact ⟨rfl, by repeat (first | exact Drawn0.refl _ | apply Drawn0.step)⟩

theorem fits_at (n : Int) (bits : Nat) (hb : 1 ≤ bits) (hb' : bits ≤ 64) (k : Nat) (hk : 65 ≤ k) : PWholeSums.vivariumref01_Fits.f k n bits = PureGcds.fitsFin n ((2 ^ (bits - 1) : Nat) - 1 : Int) := by
  have h := ref_fits (l := fun k h i => PWholeSums.vivariumref01_Fits.l0 k n bits h i) (fin := PureGcds.fitsFin n) bits hb (fun k h i => by rw [PWholeSums.vivariumref01_Fits.l0]; rfl) (64 - bits) k (by omega) (by omega)
  rw [show bits + (64 - bits) = 64 by omega] at h
  exact h
theorem refAdd (a b : Int) (bits lim : Nat) (hb : 1 ≤ bits) (hb' : bits ≤ 64) (hl : 2 ^ (bits - 1) = lim) (hlim : lim ≤ 9223372036854775808) (h0 : 0 < lim) (a0 : -(lim : Int) ≤ a) (a1 : a < lim) (b0 : -(lim : Int) ≤ b) (b1 : b < lim) (w : World) :
    Calls Try.prog 37 #[.int .i64 a, .int .i64 b, .int .i64 bits] w fun e w' => e = .returned (.tuple #[.int .i64 (addV lim a b), .bool (addB lim a b)]) ∧ Drawn0 w w' := by
  refine (PWholeSums.vivariumref01_Add.calls 65 a b bits _ _ w ?_)
  have hf : ∀ x : Int, -(9223372036854775808 : Int) ≤ x → x < 9223372036854775808 → PWholeSums.vivariumref01_Fits.f 65 x bits = some (if -(lim : Int) ≤ x ∧ x < lim then (x, true) else (0, false)) := by
    intro x x0 x1
    rw [fits_at x bits hb hb' 65 (by omega), hl]
    unfold PureGcds.fitsFin
    have e : wrap64 (wrap64 (-((lim : Int) - 1)) - 1) = -(lim : Int) := by unfold wrap64; omega
    rw [e]
    by_cases h1 : x > (lim : Int) - 1
    · rw [if_pos h1, if_neg (by omega)]
    · rw [if_neg h1]
      by_cases h2 : x < -(lim : Int)
      · rw [if_pos h2, if_neg (by omega)]
      · rw [if_neg h2, if_pos (by omega)]
  have e1 : 0 < b → wrap64 (9223372036854775807 - b) = 9223372036854775807 - b := fun h => by unfold wrap64; omega
  have e2 : b < 0 → wrap64 ((-9223372036854775808) - b) = (-9223372036854775808) - b := fun h => by unfold wrap64; omega
  unfold PWholeSums.vivariumref01_Add.f addV addB addR
  by_cases hin : -(9223372036854775808 : Int) ≤ a + b ∧ a + b < 9223372036854775808
  · have e3 : wrap64 (a + b) = a + b := by unfold wrap64; omega
    have hfin : ((PWholeSums.vivariumref01_Fits.f 65 (wrap64 (a + b)) bits).bind fun bt => some (bt.1, bt.2)) = some ((if -(lim : Int) ≤ a + b ∧ a + b < lim then (a + b, true) else (0, false) : Int × Bool).1, (if -(lim : Int) ≤ a + b ∧ a + b < lim then (a + b, true) else (0, false) : Int × Bool).2) := by
      rw [e3, hf _ hin.1 hin.2]; rfl
    by_cases hp : b > 0
    · rw [if_pos hp, e1 hp, if_neg (by omega), if_neg (by omega)]; exact hfin
    · rw [if_neg hp]
      by_cases hn : b < 0
      · rw [if_pos hn, e2 hn, if_neg (by omega)]; exact hfin
      · rw [if_neg hn]; exact hfin
  · rw [if_neg (show ¬ (-(lim : Int) ≤ a + b ∧ a + b < lim) by omega)]
    by_cases hp : b > 0
    · rw [if_pos hp, e1 hp, if_pos (by omega)]
    · rw [if_neg hp, if_pos (by omega), e2 (by omega), if_pos (by omega)]
theorem is_true (a : Int) (b : Bool) (w : World) : Calls Try.prog 15 #[.int .i64 a, .bool b, .int .i64 a, .bool b] w fun e w' => e = .returned (.bool true) ∧ w = w' := by
  go_enter Try.func15, Try.ntmps15
  go_wp2
  go_ret
  exact ⟨by simp, rfl⟩

set_option maxHeartbeats 4000000 in
set_option maxRecDepth 100000 in
theorem products (a0 a1 a2 a3 a4 a5 a6 a7 a8 a9 : Int) (h0 : (Lit.int .i8 a0).wf = true) (h1 : (Lit.int .i8 a1).wf = true) (h2 : (Lit.int .i16 a2).wf = true) (h3 : (Lit.int .i16 a3).wf = true) (h4 : (Lit.int .i32 a4).wf = true) (h5 : (Lit.int .i32 a5).wf = true)
    (h6 : (Lit.int .i64 a6).wf = true) (h7 : (Lit.int .i64 a7).wf = true) (h8 : (Lit.int .i64 a8).wf = true) (h9 : (Lit.int .i64 a9).wf = true) (w : World) :
    Calls Try.prog 38 #[.agg #[.int .i8 a0, .int .i8 a1, .int .i16 a2, .int .i16 a3, .int .i32 a4, .int .i32 a5, .int .i64 a6, .int .i64 a7, .int .i64 a8, .int .i64 a9]] w fun e w' => e = .returned (.bool true) ∧ Below w.heap.size w w' := by
  simp [Lit.wf, IntKind.min, IntKind.max, IntKind.signed, IntKind.bits] at h0 h1 h2 h3 h4 h5 h6 h7 h8 h9
  obtain ⟨p0, q0⟩ := h0; obtain ⟨p1, q1⟩ := h1; obtain ⟨p2, q2⟩ := h2; obtain ⟨p3, q3⟩ := h3; obtain ⟨p4, q4⟩ := h4; obtain ⟨p5, q5⟩ := h5; obtain ⟨p6, q6⟩ := h6; obtain ⟨p7, q7⟩ := h7; obtain ⟨p8, q8⟩ := h8; obtain ⟨p9, q9⟩ := h9
  obtain ⟨v8a, v8b⟩ := mulV_bd 128 a0 a1 (by omega)
  obtain ⟨v16a, v16b⟩ := mulV_bd 32768 a2 a3 (by omega)
  obtain ⟨v32a, v32b⟩ := mulV_bd 2147483648 a4 a5 (by omega)
  have r8 : ∀ W : World, Calls Try.prog 57 #[.int .i64 a0, .int .i64 a1, .int .i64 8] W fun e w' => e = .returned (.tuple #[.int .i64 (mulV 128 a0 a1), .bool (mulB 128 a0 a1)]) ∧ Drawn0 W w' := fun W => refMul a0 a1 (by omega) (by omega) (by omega) (by omega) 8 128 (by omega) (by omega) (by decide) (by omega) (by omega) W
  have r16 : ∀ W : World, Calls Try.prog 57 #[.int .i64 a2, .int .i64 a3, .int .i64 16] W fun e w' => e = .returned (.tuple #[.int .i64 (mulV 32768 a2 a3), .bool (mulB 32768 a2 a3)]) ∧ Drawn0 W w' := fun W => refMul a2 a3 (by omega) (by omega) (by omega) (by omega) 16 32768 (by omega) (by omega) (by decide) (by omega) (by omega) W
  have r32 : ∀ W : World, Calls Try.prog 57 #[.int .i64 a4, .int .i64 a5, .int .i64 32] W fun e w' => e = .returned (.tuple #[.int .i64 (mulV 2147483648 a4 a5), .bool (mulB 2147483648 a4 a5)]) ∧ Drawn0 W w' := fun W => refMul a4 a5 (by omega) (by omega) (by omega) (by omega) 32 2147483648 (by omega) (by omega) (by decide) (by omega) (by omega) W
  have r64 : ∀ W : World, Calls Try.prog 57 #[.int .i64 a6, .int .i64 a7, .int .i64 64] W fun e w' => e = .returned (.tuple #[.int .i64 (mulV 9223372036854775808 a6 a7), .bool (mulB 9223372036854775808 a6 a7)]) ∧ Drawn0 W w' := fun W => refMul a6 a7 (by omega) (by omega) (by omega) (by omega) 64 9223372036854775808 (by omega) (by omega) (by decide) (by omega) (by omega) W
  have rI : ∀ W : World, Calls Try.prog 57 #[.int .i64 a8, .int .i64 a9, .int .i64 64] W fun e w' => e = .returned (.tuple #[.int .i64 (mulV 9223372036854775808 a8 a9), .bool (mulB 9223372036854775808 a8 a9)]) ∧ Drawn0 W w' := fun W => refMul a8 a9 (by omega) (by omega) (by omega) (by omega) 64 9223372036854775808 (by omega) (by omega) (by decide) (by omega) (by omega) W
  have g8 := fun (W : World) => mul8 a0 a1 (by omega) (by omega) (by omega) (by omega) W
  have g16 := fun (W : World) => mul16 a2 a3 (by omega) (by omega) (by omega) (by omega) W
  have g32 := fun (W : World) => mul32 a4 a5 (by omega) (by omega) (by omega) (by omega) W
  have g64 := fun (W : World) => mul64 a6 a7 (by omega) (by omega) (by omega) (by omega) W
  have gI := fun (W : World) => mulI a8 a9 (by omega) (by omega) (by omega) (by omega) W
  have gT := fun (W : World) => mulT a0 a1 (by omega) (by omega) (by omega) (by omega) W
  have gW := fun (W : World) => mulW a8 a9 (by omega) (by omega) (by omega) (by omega) W
  have R8 := Lib.hid r8; clear r8
  have R16 := Lib.hid r16; clear r16
  have R32 := Lib.hid r32; clear r32
  have R64 := Lib.hid r64; clear r64
  have RI := Lib.hid rI; clear rI
  have G8 := Lib.hid g8; clear g8
  have G16 := Lib.hid g16; clear g16
  have G32 := Lib.hid g32; clear g32
  have G64 := Lib.hid g64; clear g64
  have GI := Lib.hid gI; clear gI
  have GT := Lib.hid gT; clear gT
  have GW := Lib.hid gW; clear gW
  go_enter Try.func38, Try.ntmps38
  go_wp2_with (first
    | (go_at_call 50; refine (G8.out _).mono ?_; rintro e w' ⟨rfl, ⟨nd, rfl⟩⟩)
    | (go_at_call 51; refine (G16.out _).mono ?_; rintro e w' ⟨rfl, ⟨nd, rfl⟩⟩)
    | (go_at_call 52; refine (G32.out _).mono ?_; rintro e w' ⟨rfl, ⟨nd, rfl⟩⟩)
    | (go_at_call 53; refine (G64.out _).mono ?_; rintro e w' ⟨rfl, ⟨nd, rfl⟩⟩)
    | (go_at_call 54; refine (GI.out _).mono ?_; rintro e w' ⟨rfl, ⟨nd, rfl⟩⟩)
    | (go_at_call 55; refine (GT.out _).mono ?_; rintro e w' ⟨rfl, ⟨nd, rfl⟩⟩)
    | (go_at_call 56; refine (GW.out _).mono ?_; rintro e w' ⟨rfl, ⟨nd, rfl⟩⟩)
    | (go_at_call 57; with_reducible refine (R8.out _).mono ?_; rintro e w' ⟨rfl, ⟨nd, rfl⟩⟩)
    | (go_at_call 57; with_reducible refine (R16.out _).mono ?_; rintro e w' ⟨rfl, ⟨nd, rfl⟩⟩)
    | (go_at_call 57; with_reducible refine (R32.out _).mono ?_; rintro e w' ⟨rfl, ⟨nd, rfl⟩⟩)
    | (go_at_call 57; with_reducible refine (R64.out _).mono ?_; rintro e w' ⟨rfl, ⟨nd, rfl⟩⟩)
    | (go_at_call 57; with_reducible refine (RI.out _).mono ?_; rintro e w' ⟨rfl, ⟨nd, rfl⟩⟩)
    | (go_at_call 15; refine (is_true _ _ _).mono ?_; rintro e w' ⟨rfl, rfl⟩))
  go_ret
  exact ⟨rfl, by repeat (first | exact Below.refl _ _ | apply below_alloc | apply pw_below_drewN)⟩

set_option maxHeartbeats 4000000 in
set_option maxRecDepth 100000 in
theorem law (a0 a1 a2 a3 a4 a5 a6 a7 a8 a9 : Int) (h0 : (Lit.int .i8 a0).wf = true) (h1 : (Lit.int .i8 a1).wf = true) (h2 : (Lit.int .i16 a2).wf = true) (h3 : (Lit.int .i16 a3).wf = true) (h4 : (Lit.int .i32 a4).wf = true) (h5 : (Lit.int .i32 a5).wf = true)
    (h6 : (Lit.int .i64 a6).wf = true) (h7 : (Lit.int .i64 a7).wf = true) (h8 : (Lit.int .i64 a8).wf = true) (h9 : (Lit.int .i64 a9).wf = true) (w : World) :
    Calls Try.prog 5 #[.agg #[.int .i8 a0, .int .i8 a1, .int .i16 a2, .int .i16 a3, .int .i32 a4, .int .i32 a5, .int .i64 a6, .int .i64 a7, .int .i64 a8, .int .i64 a9]] w fun e w' => e = .returned (.bool true) ∧ Below w.heap.size w w' := by
  have PR := Lib.hid (fun (W : World) => products a0 a1 a2 a3 a4 a5 a6 a7 a8 a9 h0 h1 h2 h3 h4 h5 h6 h7 h8 h9 W)
  simp [Lit.wf, IntKind.min, IntKind.max, IntKind.signed, IntKind.bits] at h0 h1 h2 h3 h4 h5 h6 h7 h8 h9
  obtain ⟨p0, q0⟩ := h0; obtain ⟨p1, q1⟩ := h1; obtain ⟨p2, q2⟩ := h2; obtain ⟨p3, q3⟩ := h3; obtain ⟨p4, q4⟩ := h4; obtain ⟨p5, q5⟩ := h5; obtain ⟨p6, q6⟩ := h6; obtain ⟨p7, q7⟩ := h7; obtain ⟨p8, q8⟩ := h8; obtain ⟨p9, q9⟩ := h9
  obtain ⟨v8a, v8b⟩ := addV_bd 128 a0 a1 (by omega)
  obtain ⟨v16a, v16b⟩ := addV_bd 32768 a2 a3 (by omega)
  obtain ⟨v32a, v32b⟩ := addV_bd 2147483648 a4 a5 (by omega)
  have r8 : ∀ W : World, Calls Try.prog 37 #[.int .i64 a0, .int .i64 a1, .int .i64 8] W fun e w' => e = .returned (.tuple #[.int .i64 (addV 128 a0 a1), .bool (addB 128 a0 a1)]) ∧ Drawn0 W w' := fun W => refAdd a0 a1 8 128 (by omega) (by omega) (by decide) (by omega) (by omega) (by omega) (by omega) (by omega) (by omega) W
  have r16 : ∀ W : World, Calls Try.prog 37 #[.int .i64 a2, .int .i64 a3, .int .i64 16] W fun e w' => e = .returned (.tuple #[.int .i64 (addV 32768 a2 a3), .bool (addB 32768 a2 a3)]) ∧ Drawn0 W w' := fun W => refAdd a2 a3 16 32768 (by omega) (by omega) (by decide) (by omega) (by omega) (by omega) (by omega) (by omega) (by omega) W
  have r32 : ∀ W : World, Calls Try.prog 37 #[.int .i64 a4, .int .i64 a5, .int .i64 32] W fun e w' => e = .returned (.tuple #[.int .i64 (addV 2147483648 a4 a5), .bool (addB 2147483648 a4 a5)]) ∧ Drawn0 W w' := fun W => refAdd a4 a5 32 2147483648 (by omega) (by omega) (by decide) (by omega) (by omega) (by omega) (by omega) (by omega) (by omega) W
  have r64 : ∀ W : World, Calls Try.prog 37 #[.int .i64 a6, .int .i64 a7, .int .i64 64] W fun e w' => e = .returned (.tuple #[.int .i64 (addV 9223372036854775808 a6 a7), .bool (addB 9223372036854775808 a6 a7)]) ∧ Drawn0 W w' := fun W => refAdd a6 a7 64 9223372036854775808 (by omega) (by omega) (by decide) (by omega) (by omega) (by omega) (by omega) (by omega) (by omega) W
  have rI : ∀ W : World, Calls Try.prog 37 #[.int .i64 a8, .int .i64 a9, .int .i64 64] W fun e w' => e = .returned (.tuple #[.int .i64 (addV 9223372036854775808 a8 a9), .bool (addB 9223372036854775808 a8 a9)]) ∧ Drawn0 W w' := fun W => refAdd a8 a9 64 9223372036854775808 (by omega) (by omega) (by decide) (by omega) (by omega) (by omega) (by omega) (by omega) (by omega) W
  have g8 := fun (W : World) => add8 a0 a1 (by omega) (by omega) (by omega) (by omega) W
  have g16 := fun (W : World) => add16 a2 a3 (by omega) (by omega) (by omega) (by omega) W
  have g32 := fun (W : World) => add32 a4 a5 (by omega) (by omega) (by omega) (by omega) W
  have g64 := fun (W : World) => add64 a6 a7 (by omega) (by omega) (by omega) (by omega) W
  have gI := fun (W : World) => addI a8 a9 (by omega) (by omega) (by omega) (by omega) W
  have gT := fun (W : World) => addT a0 a1 (by omega) (by omega) (by omega) (by omega) W
  have gW := fun (W : World) => addW a8 a9 (by omega) (by omega) (by omega) (by omega) W
  have R8 := Lib.hid r8; clear r8
  have R16 := Lib.hid r16; clear r16
  have R32 := Lib.hid r32; clear r32
  have R64 := Lib.hid r64; clear r64
  have RI := Lib.hid rI; clear rI
  have G8 := Lib.hid g8; clear g8
  have G16 := Lib.hid g16; clear g16
  have G32 := Lib.hid g32; clear g32
  have G64 := Lib.hid g64; clear g64
  have GI := Lib.hid gI; clear gI
  have GT := Lib.hid gT; clear gT
  have GW := Lib.hid gW; clear gW
  go_enter Try.func5, Try.ntmps5
  go_wp2_with (first
    | (go_at_call 30; refine (G8.out _).mono ?_; rintro e w' ⟨rfl, ⟨nd, rfl⟩⟩)
    | (go_at_call 31; refine (G16.out _).mono ?_; rintro e w' ⟨rfl, ⟨nd, rfl⟩⟩)
    | (go_at_call 32; refine (G32.out _).mono ?_; rintro e w' ⟨rfl, ⟨nd, rfl⟩⟩)
    | (go_at_call 33; refine (G64.out _).mono ?_; rintro e w' ⟨rfl, ⟨nd, rfl⟩⟩)
    | (go_at_call 34; refine (GI.out _).mono ?_; rintro e w' ⟨rfl, ⟨nd, rfl⟩⟩)
    | (go_at_call 35; refine (GT.out _).mono ?_; rintro e w' ⟨rfl, ⟨nd, rfl⟩⟩)
    | (go_at_call 36; refine (GW.out _).mono ?_; rintro e w' ⟨rfl, ⟨nd, rfl⟩⟩)
    | (go_at_call 37; with_reducible refine (R8.out _).mono ?_; rintro e w' ⟨rfl, ⟨nd, rfl⟩⟩)
    | (go_at_call 37; with_reducible refine (R16.out _).mono ?_; rintro e w' ⟨rfl, ⟨nd, rfl⟩⟩)
    | (go_at_call 37; with_reducible refine (R32.out _).mono ?_; rintro e w' ⟨rfl, ⟨nd, rfl⟩⟩)
    | (go_at_call 37; with_reducible refine (R64.out _).mono ?_; rintro e w' ⟨rfl, ⟨nd, rfl⟩⟩)
    | (go_at_call 37; with_reducible refine (RI.out _).mono ?_; rintro e w' ⟨rfl, ⟨nd, rfl⟩⟩)
    | (go_at_call 38; refine (PR.out _).mono ?_; rintro e w' ⟨rfl, hb⟩)
    | (go_at_call 15; refine (is_true _ _ _).mono ?_; rintro e w' ⟨rfl, rfl⟩))
  go_ret
  exact ⟨rfl, below_then (w1 := _) (by repeat (first | exact Below.refl _ _ | apply below_alloc | apply pw_below_drewN)) (by simp) hb⟩

end Go.Proofs.Ytnghjojddhdlkaa.Sums
