import Derived.Test.YtlghmadoogblcaaPWx7
import Derived.Test.YtlghmadoogblcaaAlive
import Derived.Test.YtlghmadoogblcaaBits
namespace Go.Proofs.Ytlghmadoogblcaa.Pure
open Go Go.RowKit Go.Proofs.Ytlghmadoogblcaa.PW Go.Proofs.YtlghmadoogblcaaW.PrintWords Go.Proofs.YtlghmadoogblcaaW.PrintLast Go.Proofs.Ytlghmadoogblcaa.Bits
set_option maxRecDepth 100000

theorem places_loop (a b c : Nat) (ha : a < 18446744073709551616) (hb : b < 18446744073709551616) (hc : c < 18446744073709551616) :
    ∀ j i : Nat, i + j = 64 → vivariumlaw02_WordsPlaces.l0 (j + 1) a b c true ((xor3 a b 0 : Nat) : Int) ((maj a b 0 : Nat) : Int) ((xor3 a b c : Nat) : Int) ((maj a b c : Nat) : Int) (i : Int) = some true
  | 0, i, h => by
    have hi : i = 64 := by omega
    subst hi
    rw [vivariumlaw02_WordsPlaces.l0, if_neg (by decide)]
  | j + 1, i, h => by
    rw [vivariumlaw02_WordsPlaces.l0, if_pos (by omega)]
    have hw : IntKind.u64.wrap (i : Int) = (i : Int) := wrapU_small i (by omega)
    have h0 : (0 : Nat) < 18446744073709551616 := by decide
    rw [hw, if_pos (by omega), and_bit a i ha (by omega), and_bit b i hb (by omega), and_bit c i hc (by omega),
      and_bit _ i (xor3_lt ha hb h0) (by omega), and_bit _ i (maj_lt hb h0) (by omega), and_bit _ i (xor3_lt ha hb hc) (by omega), and_bit _ i (maj_lt hb hc) (by omega)]
    have la := bit_lt a i
    have lb := bit_lt b i
    have lc := bit_lt c i
    have z : bit 0 i = 0 := by simp [bit]
    have x0 := bit_xor3 a b 0 i
    have m0 := bit_maj a b 0 i
    have x1 := bit_xor3 a b c i
    have m1 := bit_maj a b c i
    rw [z] at x0 m0
    simp only [IntKind.wrap_u64]
    rw [if_pos (by omega), if_pos (by omega)]
    have e5 : wrap64 ((i : Int) + 1) = ((i + 1 : Nat) : Int) := by unfold wrap64; omega
    rw [e5]
    exact places_loop a b c ha hb hc j (i + 1) (by omega)

theorem WordsPlaces : vivariumlaw02_WordsPlaces.Pure := by
  intro a0 a1 a2 h0 h1 h2
  obtain ⟨a, rfl, ha⟩ := wf_u64 h0
  obtain ⟨b, rfl, hb⟩ := wf_u64 h1
  obtain ⟨c, rfl, hc⟩ := wf_u64 h2
  refine ⟨100, ?_⟩
  unfold vivariumlaw02_WordsPlaces.f
  rw [Alive.alive_true, half_spec a b ha hb, full_spec a b c ha hb hc]
  simp only [Option.bind_some]
  exact at_rounds (g := fun k => vivariumlaw02_WordsPlaces.l0 k a b c true ((xor3 a b 0 : Nat) : Int) ((maj a b 0 : Nat) : Int) ((xor3 a b c : Nat) : Int) ((maj a b c : Nat) : Int) 0) (fun k => vivariumlaw02_WordsPlaces.mono_l k _ _ _ _ _ _ _ _ _) (by decide : 65 ≤ 100) (places_loop a b c ha hb hc 64 0 (by omega))

end Go.Proofs.Ytlghmadoogblcaa.Pure
