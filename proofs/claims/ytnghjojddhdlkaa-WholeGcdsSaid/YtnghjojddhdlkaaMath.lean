/- Plain laws on whole numbers for the statements of layer 1: wraps, greatest common divisors by negative numbers, a kind's highest number by halving. No program in sight. -/
import Derived.WalkKit
namespace Go.Proofs.Ytnghjojddhdlkaa.Math
open Go.RowKit

theorem i8_wrap (x : Int) : IntKind.i8.wrap x = (x + 128) % 256 - 128 := by
  have e1 : (2 ^ IntKind.i8.bits : Int) = 256 := by decide
  have e2 : (2 ^ (IntKind.i8.bits - 1) : Int) = 128 := by decide
  unfold IntKind.wrap
  simp only [e1, e2, IntKind.signed, Bool.true_and]
  split <;> rename_i h <;> simp at h <;> omega
theorem i16_wrap (x : Int) : IntKind.i16.wrap x = (x + 32768) % 65536 - 32768 := by
  have e1 : (2 ^ IntKind.i16.bits : Int) = 65536 := by decide
  have e2 : (2 ^ (IntKind.i16.bits - 1) : Int) = 32768 := by decide
  unfold IntKind.wrap
  simp only [e1, e2, IntKind.signed, Bool.true_and]
  split <;> rename_i h <;> simp at h <;> omega
theorem u64_wrap (x : Int) : IntKind.u64.wrap x = x % 18446744073709551616 := by
  have e1 : (2 ^ IntKind.u64.bits : Int) = 18446744073709551616 := by decide
  unfold IntKind.wrap
  simp only [e1, IntKind.signed, Bool.false_and]
  rfl

/-- The program's last step: 'if a != 0 && -a == a'. -/
def gcdFin (neg : Int → Int) (a : Int) : Option (Int × Bool) := if a = 0 then some (neg a, true) else if neg a = a then some (0, false) else some (neg a, true)

theorem gcd_step (x y : Nat) : Nat.gcd x y = Nat.gcd y (x % y) := by
  rw [Nat.gcd_comm x y, Nat.gcd_rec y x, Nat.gcd_comm]

/-- The program's loop, which goes by numbers below nought. -/
theorem prog_gcd {l : Nat → Int → Int → Option (Int × Bool)} {neg : Int → Int}
    (hl : ∀ k a b, l (k + 1) a b = if b = 0 then gcdFin neg a else l k b (Int.tmod a b)) :
    ∀ (y x k : Nat), y < k → l k (-(x : Int)) (-(y : Int)) = gcdFin neg (-(Nat.gcd x y : Int)) := by
  intro y
  induction y using Nat.strongRecOn with
  | _ y ih =>
    intro x k hk
    obtain ⟨k, rfl⟩ : ∃ m, k = m + 1 := ⟨k - 1, by omega⟩
    rw [hl]
    by_cases h : y = 0
    · subst h; simp
    · rw [if_neg (by omega)]
      have e : Int.tmod (-(x : Int)) (-(y : Int)) = -((x % y : Nat) : Int) := by
        rw [Int.tmod_neg, Int.neg_tmod, Int.ofNat_tmod]
      have hlt := Nat.mod_lt x (show y > 0 by omega)
      rw [e, ih (x % y) hlt y k (by omega), ← gcd_step x y]

/-- The reference's loop. -/
theorem ref_gcd {α : Type} {l : Nat → Int → Int → Option α} {fin : Nat → Int → Option α}
    (hl : ∀ k a b, l (k + 1) a b = if b > 0 then (if b = 0 then none else l k b (Int.tmod a b)) else fin k a) :
    ∀ (y x k : Nat), y < k → ∃ m, k ≤ m + y + 1 ∧ l k (x : Int) (y : Int) = fin m (Nat.gcd x y : Int) := by
  intro y
  induction y using Nat.strongRecOn with
  | _ y ih =>
    intro x k hk
    obtain ⟨k, rfl⟩ : ∃ m, k = m + 1 := ⟨k - 1, by omega⟩
    rw [hl]
    by_cases h : y = 0
    · subst h; exact ⟨k, by omega, by simp⟩
    · rw [if_pos (by omega), if_neg (by omega)]
      have e : Int.tmod (x : Int) (y : Int) = ((x % y : Nat) : Int) := by rw [Int.ofNat_tmod]
      have hlt := Nat.mod_lt x (show y > 0 by omega)
      obtain ⟨m, hm, hr⟩ := ih (x % y) hlt y k (by omega)
      exact ⟨m, by omega, by rw [e, hr, ← gcd_step x y]⟩

/-- The reference's Fits: the highest number of a kind by halving. -/
theorem ref_fits {α : Type} {l : Nat → Int → Int → Option α} {fin : Int → Option α} (bits : Nat) (hb : 1 ≤ bits) 
    (hl : ∀ k h i, l (k + 1) h i = if i > (bits : Int) then l k (wrap64 (Int.tdiv h 2)) (wrap64 (i - 1)) else fin h) :
    ∀ (d k : Nat), bits + d ≤ 64 → d < k → l k ((2 ^ (bits + d - 1) : Nat) - 1 : Int) ((bits + d : Nat) : Int) = fin ((2 ^ (bits - 1) : Nat) - 1 : Int) := by
  intro d
  induction d with
  | zero =>
    intro k _ hk
    obtain ⟨k, rfl⟩ : ∃ m, k = m + 1 := ⟨k - 1, by omega⟩
    rw [hl, if_neg (by omega)]; rfl
  | succ d ih =>
    intro k hd hk
    obtain ⟨k, rfl⟩ : ∃ m, k = m + 1 := ⟨k - 1, by omega⟩
    rw [hl, if_pos (by omega)]
    have hp : 1 ≤ 2 ^ (bits + d - 1) := Nat.one_le_two_pow
    have hq : 2 ^ (bits + d - 1) ≤ 2 ^ 62 := Nat.pow_le_pow_right (by omega) (by omega)
    have e1 : 2 ^ (bits + (d + 1) - 1) = 2 * 2 ^ (bits + d - 1) := by
      rw [show bits + (d + 1) - 1 = (bits + d - 1) + 1 by omega, Nat.pow_succ, Nat.mul_comm]
    have e2 : wrap64 (Int.tdiv ((2 ^ (bits + (d + 1) - 1) : Nat) - 1 : Int) 2) = ((2 ^ (bits + d - 1) : Nat) - 1 : Int) := by
      rw [e1]
      generalize 2 ^ (bits + d - 1) = p at hp hq
      rw [Int.tdiv_eq_ediv_of_nonneg (by omega)]
      unfold wrap64
      omega
    have e3 : wrap64 (((bits + (d + 1) : Nat) : Int) - 1) = ((bits + d : Nat) : Int) := by
      unfold wrap64; omega
    rw [e2, e3]
    exact ih k (by omega) (by omega)
end Go.Proofs.Ytnghjojddhdlkaa.Math
