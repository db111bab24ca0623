/- WholeDivides without Go: remainders and quotients of seven kinds and the reference's are the mathematician's. -/
import Derived.Test.YtnghjojddhdlkaaPWholeDividesx
import Derived.Test.YtnghjojddhdlkaaMath
namespace Go.Proofs.Ytnghjojddhdlkaa.PureDivides
open Go.RowKit Go.Proofs.Ytnghjojddhdlkaa.PWholeDivides Go.Proofs.Ytnghjojddhdlkaa.Math

theorem i8_in (x : Int) (h0 : -128 ≤ x) (h1 : x < 128) : IntKind.i8.wrap x = x := by rw [i8_wrap]; omega
theorem i16_in (x : Int) (h0 : -32768 ≤ x) (h1 : x < 32768) : IntKind.i16.wrap x = x := by rw [i16_wrap]; omega
theorem w32_in (x : Int) (h0 : -2147483648 ≤ x) (h1 : x < 2147483648) : wrap32 x = x := by unfold wrap32; omega
theorem w64_in (x : Int) (h0 : -9223372036854775808 ≤ x) (h1 : x < 9223372036854775808) : wrap64 x = x := by unfold wrap64; omega

theorem is_same (r : Int × Bool) : vivariumlaw01_is.f r.1 r.2 r.1 r.2 = some true := by
  unfold vivariumlaw01_is.f; simp
theorem modR_w (a n lim : Int) (wr : Int → Int) (hw : ∀ x, -lim ≤ x → x < lim → wr x = x) (hn : n < lim) (h0 : 0 < lim) : wr (modR a n).1 = (modR a n).1 := by
  unfold modR
  by_cases h : n < 1
  · rw [if_pos h]; exact hw 0 (by omega) (by omega)
  · rw [if_neg h]
    have h4 := Int.emod_lt_of_pos a (show 0 < n by omega)
    have h5 := Int.emod_nonneg a (show n ≠ 0 by omega)
    exact hw _ (by dsimp only; omega) (by dsimp only; omega)
theorem divR_w (a n lim : Int) (wr : Int → Int) (hw : ∀ x, -lim ≤ x → x < lim → wr x = x) (ha : -lim ≤ a) (hb : a < lim) (h0 : 0 < lim) : wr (divR a n).1 = (divR a n).1 := by
  unfold divR
  by_cases h : n < 1
  · rw [if_pos h]; exact hw 0 (by omega) (by omega)
  · rw [if_neg h]
    have := ediv_in a n lim (by omega) h0 ha hb
    exact hw _ this.1 this.2

theorem WholeDivides (a0 a1 a2 a3 a4 a5 a6 a7 a8 a9 : Int) (h0 : (Lit.int .i8 a0).wf = true) (h1 : (Lit.int .i8 a1).wf = true) (h2 : (Lit.int .i16 a2).wf = true) (h3 : (Lit.int .i16 a3).wf = true) (h4 : (Lit.int .i32 a4).wf = true) (h5 : (Lit.int .i32 a5).wf = true)
    (h6 : (Lit.int .i64 a6).wf = true) (h7 : (Lit.int .i64 a7).wf = true) (h8 : (Lit.int .i64 a8).wf = true) (h9 : (Lit.int .i64 a9).wf = true) : vivariumlaw01_WholeDivides.f a0 a1 a2 a3 a4 a5 a6 a7 a8 a9 = some true := by
  simp [Lit.wf, IntKind.min, IntKind.max, IntKind.signed, IntKind.bits] at h0 h1 h2 h3 h4 h5 h6 h7 h8 h9
  have w0 : wrap64 a0 = a0 := by unfold wrap64; omega
  have w1 : wrap64 a1 = a1 := by unfold wrap64; omega
  have w2 : wrap64 a2 = a2 := by unfold wrap64; omega
  have w3 : wrap64 a3 = a3 := by unfold wrap64; omega
  have w4 : wrap64 a4 = a4 := by unfold wrap64; omega
  have w5 : wrap64 a5 = a5 := by unfold wrap64; omega
  have m8 : whole_Mod_int8.f a0 a1 = some (modR a0 a1) := mod_of _ _ _ 128 i8_in (by omega) (by omega)
  have mT : vivariumlaw01_Tiny_44.f a0 a1 = some (modR a0 a1) := mod_of _ _ _ 128 i8_in (by omega) (by omega)
  have m16 : whole_Mod_int16.f a2 a3 = some (modR a2 a3) := mod_of _ _ _ 32768 i16_in (by omega) (by omega)
  have m32 : whole_Mod_int32.f a4 a5 = some (modR a4 a5) := mod_of _ _ _ 2147483648 w32_in (by omega) (by omega)
  have m64 : whole_Mod_int64.f a6 a7 = some (modR a6 a7) := mod_of _ _ _ 9223372036854775808 w64_in (by omega) (by omega)
  have mI : whole_Mod_int.f a8 a9 = some (modR a8 a9) := mod_of _ _ _ 9223372036854775808 w64_in (by omega) (by omega)
  have mW : vivariumlaw01_Wide_45.f a8 a9 = some (modR a8 a9) := mod_of _ _ _ 9223372036854775808 w64_in (by omega) (by omega)
  have r8 : vivariumref01_Mod.f a0 a1 = some (modR a0 a1) := mod_of _ _ _ 9223372036854775808 w64_in (by omega) (by omega)
  have r16 : vivariumref01_Mod.f a2 a3 = some (modR a2 a3) := mod_of _ _ _ 9223372036854775808 w64_in (by omega) (by omega)
  have r32 : vivariumref01_Mod.f a4 a5 = some (modR a4 a5) := mod_of _ _ _ 9223372036854775808 w64_in (by omega) (by omega)
  have r64 : vivariumref01_Mod.f a6 a7 = some (modR a6 a7) := mod_of _ _ _ 9223372036854775808 w64_in (by omega) (by omega)
  have rI : vivariumref01_Mod.f a8 a9 = some (modR a8 a9) := mod_of _ _ _ 9223372036854775808 w64_in (by omega) (by omega)
  have d8 : whole_Div_int8.f a0 a1 = some (divR a0 a1) := div_of _ _ _ 128 i8_in (by omega) (by omega) (by omega)
  have dT : vivariumlaw01_Tiny_63.f a0 a1 = some (divR a0 a1) := div_of _ _ _ 128 i8_in (by omega) (by omega) (by omega)
  have d16 : whole_Div_int16.f a2 a3 = some (divR a2 a3) := div_of _ _ _ 32768 i16_in (by omega) (by omega) (by omega)
  have d32 : whole_Div_int32.f a4 a5 = some (divR a4 a5) := div_of _ _ _ 2147483648 w32_in (by omega) (by omega) (by omega)
  have d64 : whole_Div_int64.f a6 a7 = some (divR a6 a7) := div_of _ _ _ 9223372036854775808 w64_in (by omega) (by omega) (by omega)
  have dI : whole_Div_int.f a8 a9 = some (divR a8 a9) := div_of _ _ _ 9223372036854775808 w64_in (by omega) (by omega) (by omega)
  have dW : vivariumlaw01_Wide_64.f a8 a9 = some (divR a8 a9) := div_of _ _ _ 9223372036854775808 w64_in (by omega) (by omega) (by omega)
  have q8 : vivariumref01_Div.f a0 a1 = some (divR a0 a1) := div_of _ _ _ 9223372036854775808 w64_in (by omega) (by omega) (by omega)
  have q16 : vivariumref01_Div.f a2 a3 = some (divR a2 a3) := div_of _ _ _ 9223372036854775808 w64_in (by omega) (by omega) (by omega)
  have q32 : vivariumref01_Div.f a4 a5 = some (divR a4 a5) := div_of _ _ _ 9223372036854775808 w64_in (by omega) (by omega) (by omega)
  have q64 : vivariumref01_Div.f a6 a7 = some (divR a6 a7) := div_of _ _ _ 9223372036854775808 w64_in (by omega) (by omega) (by omega)
  have qI : vivariumref01_Div.f a8 a9 = some (divR a8 a9) := div_of _ _ _ 9223372036854775808 w64_in (by omega) (by omega) (by omega)
  have k8 : wrap64 (modR a0 a1).1 = (modR a0 a1).1 := modR_w _ _ 9223372036854775808 _ w64_in (by omega) (by omega)
  have k16 : wrap64 (modR a2 a3).1 = (modR a2 a3).1 := modR_w _ _ 9223372036854775808 _ w64_in (by omega) (by omega)
  have k32 : wrap64 (modR a4 a5).1 = (modR a4 a5).1 := modR_w _ _ 9223372036854775808 _ w64_in (by omega) (by omega)
  have e8 : wrap64 (divR a0 a1).1 = (divR a0 a1).1 := divR_w _ _ 9223372036854775808 _ w64_in (by omega) (by omega) (by omega)
  have e16 : wrap64 (divR a2 a3).1 = (divR a2 a3).1 := divR_w _ _ 9223372036854775808 _ w64_in (by omega) (by omega) (by omega)
  have e32 : wrap64 (divR a4 a5).1 = (divR a4 a5).1 := divR_w _ _ 9223372036854775808 _ w64_in (by omega) (by omega) (by omega)
  have hq : vivariumlaw01_quotients.f a0 a1 a2 a3 a4 a5 a6 a7 a8 a9 = some true := by
    unfold vivariumlaw01_quotients.f
    rw [w0, w1, w2, w3, w4, w5, d8, d16, d32, d64, dI, dT, dW, q8, q16, q32, q64, qI]
    simp only [Option.bind_some, e8, e16, e32, is_same, if_true]
  unfold vivariumlaw01_WholeDivides.f
  rw [w0, w1, w2, w3, w4, w5, m8, m16, m32, m64, mI, mT, mW, r8, r16, r32, r64, rI]
  simp only [Option.bind_some, k8, k16, k32, is_same, if_true, hq]
end Go.Proofs.Ytnghjojddhdlkaa.PureDivides
