/- The machine side of WholeNears, walked by hand: the nearest number of six kinds and the reference's; a number of each kind, and the reference's by bits. -/
import Derived.Test.YtnghjojddhdlkaaPWholeGcdsx
import Derived.Test.YtnghjojddhdlkaaPureWholeGcds
import Derived.Lib.Hide
namespace Go.Proofs.Ytnghjojddhdlkaa.Nears
open Go.RowKit Go.Proofs.Ytnghjojddhdlkaa.Math
set_option linter.unusedVariables false
set_option linter.unusedSimpArgs false

def nearR (v l h : Int) : Int := if v < l then l else if h < l then l else if h < v then h else v
def fitV (lim : Int) (x : Int) : Int := if -lim ≤ x ∧ x < lim then x else 0
def fitB (lim : Int) (x : Int) : Bool := decide (-lim ≤ x ∧ x < lim)
theorem fitV_in {lim x : Int} (h : -lim ≤ x ∧ x < lim) : fitV lim x = x := if_pos h
theorem fitB_in {lim x : Int} (h : -lim ≤ x ∧ x < lim) : fitB lim x = true := decide_eq_true h
theorem fitV_out {lim x : Int} (h : ¬ (-lim ≤ x ∧ x < lim)) : fitV lim x = 0 := if_neg h
theorem fitB_out {lim x : Int} (h : ¬ (-lim ≤ x ∧ x < lim)) : fitB lim x = false := decide_eq_false h
theorem fitV_bd (lim x : Int) (h : 0 < lim) : -lim ≤ fitV lim x ∧ fitV lim x ≤ lim - 1 := by unfold fitV; split <;> omega
theorem near_bd (v l h a b : Int) (v0 : a ≤ v) (v1 : v ≤ b) (l0 : a ≤ l) (l1 : l ≤ b) (h0 : a ≤ h) (h1 : h ≤ b) : a ≤ nearR v l h ∧ nearR v l h ≤ b := by
  unfold nearR; split
  · omega
  · split
    · omega
    · split <;> omega
theorem near8 (v l h : Int) (w : World) : Calls Try.prog 16 #[.int .i8 v, .int .i8 l, .int .i8 h] w fun e w' => e = .returned (.int .i8 (nearR v l h)) ∧ w = w' := by
  unfold nearR
  by_cases h1 : v < l
  · rw [if_pos h1]; go_enter Try.func16, Try.ntmps16; go_wp2; go_ret; exact ⟨rfl, rfl⟩
  · rw [if_neg h1]
    by_cases h2 : h < l
    · rw [if_pos h2]; go_enter Try.func16, Try.ntmps16; go_wp2; go_ret; exact ⟨rfl, rfl⟩
    · rw [if_neg h2]
      by_cases h3 : h < v
      · rw [if_pos h3]; go_enter Try.func16, Try.ntmps16; go_wp2; go_ret; exact ⟨rfl, rfl⟩
      · rw [if_neg h3]; go_enter Try.func16, Try.ntmps16; go_wp2; go_ret; exact ⟨rfl, rfl⟩

theorem near16 (v l h : Int) (w : World) : Calls Try.prog 17 #[.int .i16 v, .int .i16 l, .int .i16 h] w fun e w' => e = .returned (.int .i16 (nearR v l h)) ∧ w = w' := by
  unfold nearR
  by_cases h1 : v < l
  · rw [if_pos h1]; go_enter Try.func17, Try.ntmps17; go_wp2; go_ret; exact ⟨rfl, rfl⟩
  · rw [if_neg h1]
    by_cases h2 : h < l
    · rw [if_pos h2]; go_enter Try.func17, Try.ntmps17; go_wp2; go_ret; exact ⟨rfl, rfl⟩
    · rw [if_neg h2]
      by_cases h3 : h < v
      · rw [if_pos h3]; go_enter Try.func17, Try.ntmps17; go_wp2; go_ret; exact ⟨rfl, rfl⟩
      · rw [if_neg h3]; go_enter Try.func17, Try.ntmps17; go_wp2; go_ret; exact ⟨rfl, rfl⟩

theorem near32 (v l h : Int) (w : World) : Calls Try.prog 18 #[.int .i32 v, .int .i32 l, .int .i32 h] w fun e w' => e = .returned (.int .i32 (nearR v l h)) ∧ w = w' := by
  unfold nearR
  by_cases h1 : v < l
  · rw [if_pos h1]; go_enter Try.func18, Try.ntmps18; go_wp2; go_ret; exact ⟨rfl, rfl⟩
  · rw [if_neg h1]
    by_cases h2 : h < l
    · rw [if_pos h2]; go_enter Try.func18, Try.ntmps18; go_wp2; go_ret; exact ⟨rfl, rfl⟩
    · rw [if_neg h2]
      by_cases h3 : h < v
      · rw [if_pos h3]; go_enter Try.func18, Try.ntmps18; go_wp2; go_ret; exact ⟨rfl, rfl⟩
      · rw [if_neg h3]; go_enter Try.func18, Try.ntmps18; go_wp2; go_ret; exact ⟨rfl, rfl⟩

theorem near64 (v l h : Int) (w : World) : Calls Try.prog 19 #[.int .i64 v, .int .i64 l, .int .i64 h] w fun e w' => e = .returned (.int .i64 (nearR v l h)) ∧ w = w' := by
  unfold nearR
  by_cases h1 : v < l
  · rw [if_pos h1]; go_enter Try.func19, Try.ntmps19; go_wp2; go_ret; exact ⟨rfl, rfl⟩
  · rw [if_neg h1]
    by_cases h2 : h < l
    · rw [if_pos h2]; go_enter Try.func19, Try.ntmps19; go_wp2; go_ret; exact ⟨rfl, rfl⟩
    · rw [if_neg h2]
      by_cases h3 : h < v
      · rw [if_pos h3]; go_enter Try.func19, Try.ntmps19; go_wp2; go_ret; exact ⟨rfl, rfl⟩
      · rw [if_neg h3]; go_enter Try.func19, Try.ntmps19; go_wp2; go_ret; exact ⟨rfl, rfl⟩

theorem nearI (v l h : Int) (w : World) : Calls Try.prog 20 #[.int .i64 v, .int .i64 l, .int .i64 h] w fun e w' => e = .returned (.int .i64 (nearR v l h)) ∧ w = w' := by
  unfold nearR
  by_cases h1 : v < l
  · rw [if_pos h1]; go_enter Try.func20, Try.ntmps20; go_wp2; go_ret; exact ⟨rfl, rfl⟩
  · rw [if_neg h1]
    by_cases h2 : h < l
    · rw [if_pos h2]; go_enter Try.func20, Try.ntmps20; go_wp2; go_ret; exact ⟨rfl, rfl⟩
    · rw [if_neg h2]
      by_cases h3 : h < v
      · rw [if_pos h3]; go_enter Try.func20, Try.ntmps20; go_wp2; go_ret; exact ⟨rfl, rfl⟩
      · rw [if_neg h3]; go_enter Try.func20, Try.ntmps20; go_wp2; go_ret; exact ⟨rfl, rfl⟩

theorem nearT (v l h : Int) (w : World) : Calls Try.prog 21 #[.int .i8 v, .int .i8 l, .int .i8 h] w fun e w' => e = .returned (.int .i8 (nearR v l h)) ∧ w = w' := by
  unfold nearR
  by_cases h1 : v < l
  · rw [if_pos h1]; go_enter Try.func21, Try.ntmps21; go_wp2; go_ret; exact ⟨rfl, rfl⟩
  · rw [if_neg h1]
    by_cases h2 : h < l
    · rw [if_pos h2]; go_enter Try.func21, Try.ntmps21; go_wp2; go_ret; exact ⟨rfl, rfl⟩
    · rw [if_neg h2]
      by_cases h3 : h < v
      · rw [if_pos h3]; go_enter Try.func21, Try.ntmps21; go_wp2; go_ret; exact ⟨rfl, rfl⟩
      · rw [if_neg h3]; go_enter Try.func21, Try.ntmps21; go_wp2; go_ret; exact ⟨rfl, rfl⟩

theorem nearRef (v l h : Int) (w : World) : Calls Try.prog 22 #[.int .i64 v, .int .i64 l, .int .i64 h] w fun e w' => e = .returned (.int .i64 (nearR v l h)) ∧ w = w' := by
  unfold nearR
  by_cases h1 : v < l
  · rw [if_pos h1]; go_enter Try.func22, Try.ntmps22; go_wp2; go_ret; exact ⟨rfl, rfl⟩
  · rw [if_neg h1]
    by_cases h2 : h < l
    · rw [if_pos h2]; go_enter Try.func22, Try.ntmps22; go_wp2; go_ret; exact ⟨rfl, rfl⟩
    · rw [if_neg h2]
      by_cases h3 : h < v
      · rw [if_pos h3]; go_enter Try.func22, Try.ntmps22; go_wp2; go_ret; exact ⟨rfl, rfl⟩
      · rw [if_neg h3]; go_enter Try.func22, Try.ntmps22; go_wp2; go_ret; exact ⟨rfl, rfl⟩

theorem fits8 (x : Int) (h0 : -9223372036854775808 ≤ x) (h9 : x ≤ 9223372036854775807) (w : World) : Calls Try.prog 23 #[.int .i64 x] w fun e w' => e = .returned (.tuple #[.int .i8 (fitV 128 x), .bool (fitB 128 x)]) ∧ w = w' := by
  have hb : -128 ≤ IntKind.i8.wrap x ∧ IntKind.i8.wrap x ≤ 127 := by rw [i8_wrap]; omega
  obtain ⟨b0, b1⟩ := hb
  by_cases h1 : -128 ≤ x ∧ x < 128
  · have e : IntKind.i8.wrap x = x := by rw [i8_wrap]; omega
    rw [fitV_in h1, fitB_in h1]
    obtain ⟨h2, h3⟩ := h1
    have e2 : (IntKind.i8.wrap x == x) = true := by rw [e]; simp
    have e3 : (IntKind.i8.wrap x != x) = false := by rw [e]; simp
    have E := Lib.hid e; clear e
    go_enter Try.func23, Try.ntmps23
    go_wp2
    go_ret2
    exact ⟨rfl, rfl⟩
  · have e : (IntKind.i8.wrap x == x) = false := by
      rw [beq_eq_false_iff_ne]; intro e; exact h1 (by omega)
    have e3 : (IntKind.i8.wrap x != x) = true := by simpa using e
    rw [fitV_out h1, fitB_out h1]
    have H := Lib.hid h1; clear h1
    go_enter Try.func23, Try.ntmps23
    go_wp2
    go_ret2
    exact ⟨rfl, rfl⟩

theorem fits16 (x : Int) (h0 : -9223372036854775808 ≤ x) (h9 : x ≤ 9223372036854775807) (w : World) : Calls Try.prog 24 #[.int .i64 x] w fun e w' => e = .returned (.tuple #[.int .i16 (fitV 32768 x), .bool (fitB 32768 x)]) ∧ w = w' := by
  have hb : -32768 ≤ IntKind.i16.wrap x ∧ IntKind.i16.wrap x ≤ 32767 := by rw [i16_wrap]; omega
  obtain ⟨b0, b1⟩ := hb
  by_cases h1 : -32768 ≤ x ∧ x < 32768
  · have e : IntKind.i16.wrap x = x := by rw [i16_wrap]; omega
    rw [fitV_in h1, fitB_in h1]
    obtain ⟨h2, h3⟩ := h1
    have e2 : (IntKind.i16.wrap x == x) = true := by rw [e]; simp
    have e3 : (IntKind.i16.wrap x != x) = false := by rw [e]; simp
    have E := Lib.hid e; clear e
    go_enter Try.func24, Try.ntmps24
    go_wp2
    go_ret2
    exact ⟨rfl, rfl⟩
  · have e : (IntKind.i16.wrap x == x) = false := by
      rw [beq_eq_false_iff_ne]; intro e; exact h1 (by omega)
    have e3 : (IntKind.i16.wrap x != x) = true := by simpa using e
    rw [fitV_out h1, fitB_out h1]
    have H := Lib.hid h1; clear h1
    go_enter Try.func24, Try.ntmps24
    go_wp2
    go_ret2
    exact ⟨rfl, rfl⟩

theorem fits32 (x : Int) (h0 : -9223372036854775808 ≤ x) (h9 : x ≤ 9223372036854775807) (w : World) : Calls Try.prog 25 #[.int .i64 x] w fun e w' => e = .returned (.tuple #[.int .i32 (fitV 2147483648 x), .bool (fitB 2147483648 x)]) ∧ w = w' := by
  have hb : -2147483648 ≤ wrap32 x ∧ wrap32 x ≤ 2147483647 := by unfold wrap32; omega
  obtain ⟨b0, b1⟩ := hb
  by_cases h1 : -2147483648 ≤ x ∧ x < 2147483648
  · have e : wrap32 x = x := by unfold wrap32; omega
    rw [fitV_in h1, fitB_in h1]
    obtain ⟨h2, h3⟩ := h1
    have e2 : (wrap32 x == x) = true := by rw [e]; simp
    have e3 : (wrap32 x != x) = false := by rw [e]; simp
    have E := Lib.hid e; clear e
    go_enter Try.func25, Try.ntmps25
    go_wp2
    go_ret2
    exact ⟨rfl, rfl⟩
  · have e : (wrap32 x == x) = false := by
      rw [beq_eq_false_iff_ne]; intro e; exact h1 (by omega)
    have e3 : (wrap32 x != x) = true := by simpa using e
    rw [fitV_out h1, fitB_out h1]
    have H := Lib.hid h1; clear h1
    go_enter Try.func25, Try.ntmps25
    go_wp2
    go_ret2
    exact ⟨rfl, rfl⟩

theorem fitsT (x : Int) (h0 : -9223372036854775808 ≤ x) (h9 : x ≤ 9223372036854775807) (w : World) : Calls Try.prog 28 #[.int .i64 x] w fun e w' => e = .returned (.tuple #[.int .i8 (fitV 128 x), .bool (fitB 128 x)]) ∧ w = w' := by
  have hb : -128 ≤ IntKind.i8.wrap x ∧ IntKind.i8.wrap x ≤ 127 := by rw [i8_wrap]; omega
  obtain ⟨b0, b1⟩ := hb
  by_cases h1 : -128 ≤ x ∧ x < 128
  · have e : IntKind.i8.wrap x = x := by rw [i8_wrap]; omega
    rw [fitV_in h1, fitB_in h1]
    obtain ⟨h2, h3⟩ := h1
    have e2 : (IntKind.i8.wrap x == x) = true := by rw [e]; simp
    have e3 : (IntKind.i8.wrap x != x) = false := by rw [e]; simp
    have E := Lib.hid e; clear e
    go_enter Try.func28, Try.ntmps28
    go_wp2
    go_ret2
    exact ⟨rfl, rfl⟩
  · have e : (IntKind.i8.wrap x == x) = false := by
      rw [beq_eq_false_iff_ne]; intro e; exact h1 (by omega)
    have e3 : (IntKind.i8.wrap x != x) = true := by simpa using e
    rw [fitV_out h1, fitB_out h1]
    have H := Lib.hid h1; clear h1
    go_enter Try.func28, Try.ntmps28
    go_wp2
    go_ret2
    exact ⟨rfl, rfl⟩

theorem fits64 (x : Int) (w : World) : Calls Try.prog 26 #[.int .i64 x] w fun e w' => e = .returned (.tuple #[.int .i64 x, .bool true]) ∧ w = w' := by
  go_enter Try.func26, Try.ntmps26
  go_wp2
  go_ret2
  exact ⟨rfl, rfl⟩

theorem fitsI (x : Int) (w : World) : Calls Try.prog 27 #[.int .i64 x] w fun e w' => e = .returned (.tuple #[.int .i64 x, .bool true]) ∧ w = w' := by
  go_enter Try.func27, Try.ntmps27
  go_wp2
  go_ret2
  exact ⟨rfl, rfl⟩

theorem is_true (a : Int) (b : Bool) (w : World) : Calls Try.prog 15 #[.int .i64 a, .bool b, .int .i64 a, .bool b] w fun e w' => e = .returned (.bool true) ∧ w = w' := by
  go_enter Try.func15, Try.ntmps15
  go_wp2
  go_ret
  exact ⟨by simp, rfl⟩
theorem fitsR (x : Int) (bits lim : Nat) (hb : 1 ≤ bits) (hb' : bits ≤ 63) (hl : 2 ^ (bits - 1) = lim) (hlim : lim ≤ 4611686018427387904) (h0 : 0 < lim) (w : World) :
    Calls Try.prog 29 #[.int .i64 x, .int .i64 bits] w fun e w' => e = .returned (.tuple #[.int .i64 (fitV lim x), .bool (fitB lim x)]) ∧ YtnghjojddhdlkaaW.PrintWords.Drawn0 w w' := by
  refine (PWholeGcds.vivariumref01_Fits.calls 65 x bits (fitV lim x) (fitB lim x) w ?_)
  rw [PureGcds.fits_at x bits hb (by omega) 65 (by omega), hl]
  unfold PureGcds.fitsFin fitV fitB
  have e : wrap64 (wrap64 (-((lim : Int) - 1)) - 1) = -(lim : Int) := by unfold wrap64; omega
  rw [e]
  by_cases h1 : x > (lim : Int) - 1
  · rw [if_pos h1, if_neg (by omega), decide_eq_false (by omega)]
  · rw [if_neg h1]
    by_cases h2 : x < -(lim : Int)
    · rw [if_pos h2, if_neg (by omega), decide_eq_false (by omega)]
    · rw [if_neg h2, if_pos (by omega), decide_eq_true (by omega)]

set_option maxHeartbeats 1000000 in
set_option maxRecDepth 100000 in
theorem law (a0 a1 a2 a3 a4 a5 a6 a7 a8 a9 k : Int) (h0 : (Lit.int .i8 a0).wf = true) (h1 : (Lit.int .i8 a1).wf = true) (h2 : (Lit.int .i16 a2).wf = true) (h3 : (Lit.int .i16 a3).wf = true) (h4 : (Lit.int .i32 a4).wf = true) (h5 : (Lit.int .i32 a5).wf = true)
    (h6 : (Lit.int .i64 a6).wf = true) (h7 : (Lit.int .i64 a7).wf = true) (h8 : (Lit.int .i64 a8).wf = true) (h9 : (Lit.int .i64 a9).wf = true) (hk : (Lit.int .i64 k).wf = true) (w : World) :
    Calls Try.prog 4 #[.agg #[.int .i8 a0, .int .i8 a1, .int .i16 a2, .int .i16 a3, .int .i32 a4, .int .i32 a5, .int .i64 a6, .int .i64 a7, .int .i64 a8, .int .i64 a9], .int .i64 k] w fun e w' => e = .returned (.bool true) ∧ Below w.heap.size w w' := by
  simp [Lit.wf, IntKind.min, IntKind.max, IntKind.signed, IntKind.bits] at h0 h1 h2 h3 h4 h5 h6 h7 h8 h9 hk
  obtain ⟨p0, q0⟩ := h0; obtain ⟨p1, q1⟩ := h1; obtain ⟨p2, q2⟩ := h2; obtain ⟨p3, q3⟩ := h3; obtain ⟨p4, q4⟩ := h4; obtain ⟨p5, q5⟩ := h5; obtain ⟨p6, q6⟩ := h6; obtain ⟨p7, q7⟩ := h7; obtain ⟨p8, q8⟩ := h8; obtain ⟨p9, q9⟩ := h9; obtain ⟨pk, qk⟩ := hk
  have k8 : -128 ≤ IntKind.i8.wrap k ∧ IntKind.i8.wrap k ≤ 127 := by rw [i8_wrap]; omega
  have k16 : -32768 ≤ IntKind.i16.wrap k ∧ IntKind.i16.wrap k ≤ 32767 := by rw [i16_wrap]; omega
  have k32 : -2147483648 ≤ wrap32 k ∧ wrap32 k ≤ 2147483647 := by unfold wrap32; omega
  obtain ⟨k8a, k8b⟩ := k8; obtain ⟨k16a, k16b⟩ := k16; obtain ⟨k32a, k32b⟩ := k32
  obtain ⟨n8a, n8b⟩ := near_bd a0 a1 (IntKind.i8.wrap k) (-128) 127 p0 (by omega) p1 (by omega) k8a k8b
  obtain ⟨n16a, n16b⟩ := near_bd a2 a3 (IntKind.i16.wrap k) (-32768) 32767 p2 (by omega) p3 (by omega) k16a k16b
  obtain ⟨n32a, n32b⟩ := near_bd a4 a5 (wrap32 k) (-2147483648) 2147483647 p4 (by omega) p5 (by omega) k32a k32b
  obtain ⟨f8a, f8b⟩ := fitV_bd 128 k (by omega)
  obtain ⟨f16a, f16b⟩ := fitV_bd 32768 k (by omega)
  obtain ⟨f32a, f32b⟩ := fitV_bd 2147483648 k (by omega)
  have e8 : ∀ W : World, Calls Try.prog 29 #[.int .i64 k, .int .i64 8] W fun e w' => e = .returned (.tuple #[.int .i64 (fitV 128 k), .bool (fitB 128 k)]) ∧ YtnghjojddhdlkaaW.PrintWords.Drawn0 W w' := fun W => fitsR k 8 128 (by omega) (by omega) (by decide) (by omega) (by omega) W
  have e16 : ∀ W : World, Calls Try.prog 29 #[.int .i64 k, .int .i64 16] W fun e w' => e = .returned (.tuple #[.int .i64 (fitV 32768 k), .bool (fitB 32768 k)]) ∧ YtnghjojddhdlkaaW.PrintWords.Drawn0 W w' := fun W => fitsR k 16 32768 (by omega) (by omega) (by decide) (by omega) (by omega) W
  have e32 : ∀ W : World, Calls Try.prog 29 #[.int .i64 k, .int .i64 32] W fun e w' => e = .returned (.tuple #[.int .i64 (fitV 2147483648 k), .bool (fitB 2147483648 k)]) ∧ YtnghjojddhdlkaaW.PrintWords.Drawn0 W w' := fun W => fitsR k 32 2147483648 (by omega) (by omega) (by decide) (by omega) (by omega) W
  have E8 := Lib.hid e8; have E16 := Lib.hid e16; have E32 := Lib.hid e32
  clear e8 e16 e32
  go_enter Try.func4, Try.ntmps4
  go_wp2_with (first
    | (go_at_call 16; refine (near8 _ _ _ _).mono ?_; rintro e w' ⟨rfl, rfl⟩)
    | (go_at_call 17; refine (near16 _ _ _ _).mono ?_; rintro e w' ⟨rfl, rfl⟩)
    | (go_at_call 18; refine (near32 _ _ _ _).mono ?_; rintro e w' ⟨rfl, rfl⟩)
    | (go_at_call 19; refine (near64 _ _ _ _).mono ?_; rintro e w' ⟨rfl, rfl⟩)
    | (go_at_call 20; refine (nearI _ _ _ _).mono ?_; rintro e w' ⟨rfl, rfl⟩)
    | (go_at_call 21; refine (nearT _ _ _ _).mono ?_; rintro e w' ⟨rfl, rfl⟩)
    | (go_at_call 22; refine (nearRef _ _ _ _).mono ?_; rintro e w' ⟨rfl, rfl⟩)
    | (go_at_call 23; refine (fits8 _ pk qk _).mono ?_; rintro e w' ⟨rfl, rfl⟩)
    | (go_at_call 24; refine (fits16 _ pk qk _).mono ?_; rintro e w' ⟨rfl, rfl⟩)
    | (go_at_call 25; refine (fits32 _ pk qk _).mono ?_; rintro e w' ⟨rfl, rfl⟩)
    | (go_at_call 26; refine (fits64 _ _).mono ?_; rintro e w' ⟨rfl, rfl⟩)
    | (go_at_call 27; refine (fitsI _ _).mono ?_; rintro e w' ⟨rfl, rfl⟩)
    | (go_at_call 28; refine (fitsT _ pk qk _).mono ?_; rintro e w' ⟨rfl, rfl⟩)
    | (go_at_call 29; with_reducible refine (E8.out _).mono ?_; rintro e w' ⟨rfl, ⟨nd, rfl⟩⟩)
    | (go_at_call 29; with_reducible refine (E16.out _).mono ?_; rintro e w' ⟨rfl, ⟨nd, rfl⟩⟩)
    | (go_at_call 29; with_reducible refine (E32.out _).mono ?_; rintro e w' ⟨rfl, ⟨nd, rfl⟩⟩)
    | (go_at_call 15; refine (is_true _ _ _).mono ?_; rintro e w' ⟨rfl, rfl⟩))
  go_ret
  exact ⟨rfl, by first | assumption | (repeat first | exact Below.refl _ _ | apply YtnghjojddhdlkaaW.PrintWords.below_alloc | apply YtnghjojddhdlkaaW.PrintWords.pw_below_drewN)⟩
end Go.Proofs.Ytnghjojddhdlkaa.Nears
