import Derived.Test.YtlghmadoogblcaaPWxh
import Derived.Laws.Bits64b
namespace Go.Proofs.Ytlghmadoogblcaa.Bits
open Go Go.RowKit Go.Proofs.Ytlghmadoogblcaa.PW Go.Proofs.YtlghmadoogblcaaW.PrintWords Go.Proofs.YtlghmadoogblcaaW.PrintLast Go.Proofs.YtlghmadoogblcaaW.PrintMore
set_option maxRecDepth 100000

theorem wf_u64 {a : Int} (h : (Lit.int .u64 a).wf = true) : ∃ n : Nat, a = (n : Int) ∧ n < 18446744073709551616 := by
  simp [Lit.wf, IntKind.min, IntKind.max, IntKind.bits, IntKind.signed] at h
  exact ⟨a.toNat, by omega, by omega⟩

theorem wrapU_small (n : Nat) (h : n < 18446744073709551616) : IntKind.u64.wrap (n : Int) = (n : Int) := by
  rw [IntKind.wrap_u64]; omega

def bit (n i : Nat) : Nat := (n.testBit i).toNat
theorem bit_lt (n i : Nat) : bit n i < 2 := by unfold bit; cases n.testBit i <;> decide

theorem shr_nat (n i : Nat) (hi : i ≤ 64) : shr .u64 (n : Int) (i : Int) = ((n / 2 ^ i : Nat) : Int) := by
  unfold shr
  rw [Int.toNat_natCast, Nat.min_eq_left (by simpa [IntKind.bits] using hi)]
  simp

theorem bit_div (n i : Nat) : n / 2 ^ i % 2 = bit n i := by
  unfold bit; rw [Nat.toNat_testBit]

theorem tmod_bit (n i : Nat) (hi : i ≤ 64) : Int.tmod (shr .u64 (n : Int) (i : Int)) 2 = (bit n i : Int) := by
  rw [shr_nat n i hi, ← bit_div]
  exact (Int.ofNat_tmod _ _).symm

theorem and_bit (n i : Nat) (hn : n < 18446744073709551616) (hi : i ≤ 64) : Go.bits .and .u64 (shr .u64 (n : Int) (i : Int)) 1 = (bit n i : Int) := by
  rw [shr_nat n i hi, show (1 : Int) = ((1 : Nat) : Int) from rfl,
    bits_and_u64_nat _ _ (Nat.lt_of_le_of_lt (Nat.div_le_self _ _) hn) (by decide), Nat.and_one_is_mod, bit_div]

theorem shl_bit (b i : Nat) (hb : b < 2) (hi : i < 64) : shl .u64 (b : Int) (i : Int) = ((b * 2 ^ i : Nat) : Int) := by
  unfold shl
  rw [Int.toNat_natCast, Nat.min_eq_left (by simp [IntKind.bits]; omega)]
  have : b * 2 ^ i < 18446744073709551616 := by
    have h1 : 2 ^ i ≤ 2 ^ 63 := Nat.pow_le_pow_right (by decide) (by omega)
    have h2 : b * 2 ^ i ≤ 1 * 2 ^ 63 := Nat.mul_le_mul (by omega) h1
    omega
  have e : (b : Int) * 2 ^ i = ((b * 2 ^ i : Nat) : Int) := by simp
  rw [e, wrapU_small _ this]

theorem mod_step (X i : Nat) : X % 2 ^ i + bit X i * 2 ^ i = X % 2 ^ (i + 1) := by
  rw [Nat.mod_pow_succ, bit_div, Nat.mul_comm]

/-- The number of ones at one place, in words. -/
def xor3 (a b c : Nat) : Nat := (a ^^^ b) ^^^ c
def maj (a b c : Nat) : Nat := (a &&& b) ||| ((a ^^^ b) &&& c)

theorem bit_xor (a b i : Nat) : bit (a ^^^ b) i = (bit a i + bit b i) % 2 := by
  unfold bit; rw [Nat.testBit_xor]; cases a.testBit i <;> cases b.testBit i <;> rfl
theorem bit_and (a b i : Nat) : bit (a &&& b) i = (bit a i + bit b i) / 2 := by
  unfold bit; rw [Nat.testBit_and]; cases a.testBit i <;> cases b.testBit i <;> rfl
theorem bit_or (a b i : Nat) : bit (a ||| b) i = (bit a i + bit b i + 1) / 2 := by
  unfold bit; rw [Nat.testBit_or]; cases a.testBit i <;> cases b.testBit i <;> rfl
theorem bit_xor3 (a b c i : Nat) : bit (xor3 a b c) i = (bit a i + bit b i + bit c i) % 2 := by
  unfold xor3; rw [bit_xor, bit_xor]; omega
theorem bit_maj (a b c i : Nat) : bit (maj a b c) i = (bit a i + bit b i + bit c i) / 2 := by
  unfold maj; rw [bit_or, bit_and, bit_and, bit_xor]
  have := bit_lt a i; have := bit_lt b i; have := bit_lt c i
  omega

theorem xor3_lt {a b c : Nat} (ha : a < 18446744073709551616) (hb : b < 18446744073709551616) (hc : c < 18446744073709551616) : xor3 a b c < 18446744073709551616 :=
  Nat.xor_lt_two_pow (n := 64) (Nat.xor_lt_two_pow (n := 64) ha hb) hc
theorem maj_lt {a b c : Nat} (hb : b < 18446744073709551616) (hc : c < 18446744073709551616) : maj a b c < 18446744073709551616 :=
  Nat.or_lt_two_pow (n := 64) (Nat.and_lt_two_pow (n := 64) _ hb) (Nat.and_lt_two_pow (n := 64) _ hc)

theorem half_spec (a b : Nat) (ha : a < 18446744073709551616) (hb : b < 18446744073709551616) : words_Half.f a b = some (((xor3 a b 0 : Nat) : Int), ((maj a b 0 : Nat) : Int)) := by
  unfold words_Half.f xor3 maj
  rw [bits_xor_u64_nat a b ha hb, bits_and_u64_nat a b ha hb]
  simp
theorem full_spec (a b c : Nat) (ha : a < 18446744073709551616) (hb : b < 18446744073709551616) (hc : c < 18446744073709551616) : words_Full.f a b c = some (((xor3 a b c : Nat) : Int), ((maj a b c : Nat) : Int)) := by
  have hx : a ^^^ b < 18446744073709551616 := Nat.xor_lt_two_pow (n := 64) ha hb
  have h1 : a &&& b < 18446744073709551616 := Nat.and_lt_two_pow (n := 64) _ hb
  have h2 : (a ^^^ b) &&& c < 18446744073709551616 := Nat.and_lt_two_pow (n := 64) _ hc
  unfold words_Full.f words_Half.f xor3 maj
  rw [bits_xor_u64_nat a b ha hb, bits_and_u64_nat a b ha hb]
  simp only [Option.bind_some]
  rw [bits_xor_u64_nat _ c hx hc, bits_and_u64_nat _ c hx hc, bits_or_u64_nat _ _ h1 h2]

end Go.Proofs.Ytlghmadoogblcaa.Bits
