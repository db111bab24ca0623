import Derived.Test.YtlghmadoogblcaaPWx7
import Derived.Test.YtlghmadoogblcaaAlive
import Derived.Test.YtlghmadoogblcaaBits
namespace Go.Proofs.Ytlghmadoogblcaa.Pure
open Go Go.RowKit Go.Proofs.Ytlghmadoogblcaa.PW Go.Proofs.YtlghmadoogblcaaW.PrintWords Go.Proofs.YtlghmadoogblcaaW.PrintLast Go.Proofs.Ytlghmadoogblcaa.Bits
set_option maxRecDepth 100000

theorem sums_loop (a b c : Nat) (ha : a < 18446744073709551616) (hb : b < 18446744073709551616) (hc : c < 18446744073709551616) :
    ∀ j i : Nat, i + j = 64 → vivariumref02_Sums.l0 (j + 1) a b c ((xor3 a b c % 2 ^ i : Nat) : Int) ((maj a b c % 2 ^ i : Nat) : Int) (i : Int) = some (((xor3 a b c : Nat) : Int), ((maj a b c : Nat) : Int))
  | 0, i, h => by
    have hi : i = 64 := by omega
    subst hi
    rw [vivariumref02_Sums.l0, if_neg (by decide)]
    rw [Nat.mod_eq_of_lt (show xor3 a b c < 2 ^ 64 from xor3_lt ha hb hc), Nat.mod_eq_of_lt (show maj a b c < 2 ^ 64 from maj_lt hb hc)]
  | j + 1, i, h => by
    rw [vivariumref02_Sums.l0, if_pos (by omega)]
    have hw : IntKind.u64.wrap (i : Int) = (i : Int) := wrapU_small i (by omega)
    rw [hw, if_pos (by omega), tmod_bit a i (by omega), tmod_bit b i (by omega), tmod_bit c i (by omega)]
    have la := bit_lt a i
    have lb := bit_lt b i
    have lc := bit_lt c i
    have e1 : (bit a i : Int) + (bit b i : Int) = ((bit a i + bit b i : Nat) : Int) := by omega
    rw [e1, wrapU_small _ (by omega)]
    have e2 : ((bit a i + bit b i : Nat) : Int) + (bit c i : Int) = ((bit a i + bit b i + bit c i : Nat) : Int) := by omega
    rw [e2, wrapU_small _ (by omega)]
    have e3 : Int.tmod ((bit a i + bit b i + bit c i : Nat) : Int) 2 = ((bit (xor3 a b c) i : Nat) : Int) := by
      rw [bit_xor3]; exact (Int.ofNat_tmod _ _).symm
    have e4 : Int.tdiv ((bit a i + bit b i + bit c i : Nat) : Int) 2 = ((bit (maj a b c) i : Nat) : Int) := by
      rw [bit_maj]; exact (Int.ofNat_tdiv _ _).symm
    have lx := bit_lt (xor3 a b c) i
    have lm := bit_lt (maj a b c) i
    rw [e3, e4, wrapU_small (bit (maj a b c) i) (by omega), shl_bit _ i lx (by omega), shl_bit _ i lm (by omega)]
    have hX := mod_step (xor3 a b c) i
    have hM := mod_step (maj a b c) i
    have bX : xor3 a b c % 2 ^ (i + 1) < 18446744073709551616 := Nat.lt_of_le_of_lt (Nat.mod_le _ _) (xor3_lt ha hb hc)
    have bM : maj a b c % 2 ^ (i + 1) < 18446744073709551616 := Nat.lt_of_le_of_lt (Nat.mod_le _ _) (maj_lt hb hc)
    rw [← Int.natCast_add, ← Int.natCast_add, hX, hM, wrapU_small _ bX, wrapU_small _ bM]
    have e5 : wrap64 ((i : Int) + 1) = ((i + 1 : Nat) : Int) := by unfold wrap64; omega
    rw [e5]
    exact sums_loop a b c ha hb hc j (i + 1) (by omega)

theorem sums_spec (a b c : Nat) (ha : a < 18446744073709551616) (hb : b < 18446744073709551616) (hc : c < 18446744073709551616) :
    vivariumref02_Sums.f 100 a b c = some (((xor3 a b c : Nat) : Int), ((maj a b c : Nat) : Int)) := by
  have h := sums_loop a b c ha hb hc 64 0 (by omega)
  simp only [Nat.pow_zero, Nat.mod_one] at h
  unfold vivariumref02_Sums.f
  exact at_rounds (g := fun k => vivariumref02_Sums.l0 k a b c 0 0 0) (fun k => vivariumref02_Sums.mono_l k _ _ _ _ _ _) (by decide : 65 ≤ 100) h

theorem WordsSums : vivariumlaw02_WordsSums.Pure := by
  intro a0 a1 a2 h0 h1 h2
  obtain ⟨a, rfl, ha⟩ := wf_u64 h0
  obtain ⟨b, rfl, hb⟩ := wf_u64 h1
  obtain ⟨c, rfl, hc⟩ := wf_u64 h2
  refine ⟨100, ?_⟩
  unfold vivariumlaw02_WordsSums.f
  rw [Alive.alive_true, half_spec a b ha hb, full_spec a b c ha hb hc, sums_spec a b c ha hb hc]
  have := sums_spec a b 0 ha hb (by decide)
  rw [show ((0 : Nat) : Int) = 0 from rfl] at this
  rw [this]
  simp

end Go.Proofs.Ytlghmadoogblcaa.Pure
