/- Greatest common divisors by numbers below nought: the program's whole function at any kind. No program in sight. -/
import Derived.Test.YtnghjojddhdlkaaDoorMath
namespace Go.Proofs.YtnghjojddhdlkaaDoor.GcdPlain
open Go.RowKit Go.Proofs.YtnghjojddhdlkaaDoor.Math
set_option linter.unusedVariables false

def res (lim g : Nat) : Int × Bool := if g = lim then (0, false) else ((g : Int), true)

theorem gcd_le {a b : Nat} {lim : Nat} (ha : a ≤ lim) (hb : b ≤ lim) : Nat.gcd a b ≤ lim := by
  by_cases h : a = 0
  · subst h; simpa using hb
  · exact Nat.le_trans (Nat.gcd_le_left b (by omega)) ha

theorem prog_all {f j0 j1 l0 : Nat → Int → Int → Option (Int × Bool)} {neg : Int → Int} (lim : Nat) (hlim : 0 < lim)
    (hn : ∀ x : Nat, x ≤ lim → neg (-(x : Int)) = if x = lim then -(lim : Int) else (x : Int)) (hp : ∀ x : Int, 0 < x → x < lim → neg x = -x)
    (hf : ∀ k a b, f k a b = if a > 0 then j0 k (neg a) b else j0 k a b) (h0 : ∀ k a b, j0 (k + 1) a b = if b > 0 then j1 k a (neg b) else j1 k a b)
    (h1 : ∀ k a b, j1 (k + 1) a b = l0 k a b) (hl : ∀ k a b, l0 (k + 1) a b = if b = 0 then gcdFin neg a else l0 k b (Int.tmod a b))
    (a b : Int) (a0 : -(lim : Int) ≤ a) (a1 : a < lim) (b0 : -(lim : Int) ≤ b) (b1 : b < lim) (k : Nat) (hk : b.natAbs + 3 ≤ k) :
    f k a b = some (res lim (Nat.gcd a.natAbs b.natAbs)) := by
  obtain ⟨k, rfl⟩ : ∃ m, k = m + 2 := ⟨k - 2, by omega⟩
  have ea : f (k + 2) a b = j0 (k + 2) (-(a.natAbs : Int)) b := by
    rw [hf]; split
    · rw [hp a (by omega) a1, show a = (a.natAbs : Int) by omega]; rfl
    · congr 1; omega
  have eb : ∀ x, j0 (k + 2) x b = l0 k x (-(b.natAbs : Int)) := by
    intro x
    rw [h0]; split
    · rw [hp b (by omega) b1, h1, show -b = -(b.natAbs : Int) by omega]
    · rw [h1]; congr 1; omega
  rw [ea, eb, prog_gcd hl b.natAbs a.natAbs k (by omega)]
  have hg := gcd_le (a := a.natAbs) (b := b.natAbs) (lim := lim) (by omega) (by omega)
  generalize Nat.gcd a.natAbs b.natAbs = g at hg
  unfold gcdFin res
  rw [hn g hg]
  by_cases e : g = lim
  · rw [if_pos e, if_neg (by omega), if_pos (by omega), if_pos e]
  · rw [if_neg e, if_neg e]
    by_cases z : (-(g : Int)) = 0
    · rw [if_pos z]
    · rw [if_neg z, if_neg (by omega)]


end Go.Proofs.YtnghjojddhdlkaaDoor.GcdPlain
