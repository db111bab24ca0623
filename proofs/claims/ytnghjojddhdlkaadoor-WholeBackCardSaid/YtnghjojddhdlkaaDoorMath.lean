/- Plain laws on whole numbers for the statements of layer 1: wraps, greatest common divisors by negative numbers, a kind's highest number by halving. No program in sight. -/
import Derived.WalkKit
namespace Go.Proofs.YtnghjojddhdlkaaDoor.Math
open Go.RowKit
set_option linter.unusedVariables false

theorem i8_wrap (x : Int) : IntKind.i8.wrap x = (x + 128) % 256 - 128 := by
  have e1 : (2 ^ IntKind.i8.bits : Int) = 256 := by decide
  have e2 : (2 ^ (IntKind.i8.bits - 1) : Int) = 128 := by decide
  unfold IntKind.wrap
  simp only [e1, e2, IntKind.signed, Bool.true_and]
  split <;> rename_i h <;> simp at h <;> omega
theorem i16_wrap (x : Int) : IntKind.i16.wrap x = (x + 32768) % 65536 - 32768 := by
  have e1 : (2 ^ IntKind.i16.bits : Int) = 65536 := by decide
  have e2 : (2 ^ (IntKind.i16.bits - 1) : Int) = 32768 := by decide
  unfold IntKind.wrap
  simp only [e1, e2, IntKind.signed, Bool.true_and]
  split <;> rename_i h <;> simp at h <;> omega
theorem u64_wrap (x : Int) : IntKind.u64.wrap x = x % 18446744073709551616 := by
  have e1 : (2 ^ IntKind.u64.bits : Int) = 18446744073709551616 := by decide
  unfold IntKind.wrap
  simp only [e1, IntKind.signed, Bool.false_and]
  rfl

/-- The program's last step: 'if a != 0 && -a == a'. -/
def gcdFin (neg : Int → Int) (a : Int) : Option (Int × Bool) := if a = 0 then some (neg a, true) else if neg a = a then some (0, false) else some (neg a, true)

theorem gcd_step (x y : Nat) : Nat.gcd x y = Nat.gcd y (x % y) := by
  rw [Nat.gcd_comm x y, Nat.gcd_rec y x, Nat.gcd_comm]

/-- The program's loop, which goes by numbers below nought. -/
theorem prog_gcd {l : Nat → Int → Int → Option (Int × Bool)} {neg : Int → Int}
    (hl : ∀ k a b, l (k + 1) a b = if b = 0 then gcdFin neg a else l k b (Int.tmod a b)) :
    ∀ (y x k : Nat), y < k → l k (-(x : Int)) (-(y : Int)) = gcdFin neg (-(Nat.gcd x y : Int)) := by
  intro y
  induction y using Nat.strongRecOn with
  | _ y ih =>
    intro x k hk
    obtain ⟨k, rfl⟩ : ∃ m, k = m + 1 := ⟨k - 1, by omega⟩
    rw [hl]
    by_cases h : y = 0
    · subst h; simp
    · rw [if_neg (by omega)]
      have e : Int.tmod (-(x : Int)) (-(y : Int)) = -((x % y : Nat) : Int) := by
        rw [Int.tmod_neg, Int.neg_tmod, Int.ofNat_tmod]
      have hlt := Nat.mod_lt x (show y > 0 by omega)
      rw [e, ih (x % y) hlt y k (by omega), ← gcd_step x y]

/-- The reference's loop. -/
theorem ref_gcd {α : Type} {l : Nat → Int → Int → Option α} {fin : Nat → Int → Option α}
    (hl : ∀ k a b, l (k + 1) a b = if b > 0 then (if b = 0 then none else l k b (Int.tmod a b)) else fin k a) :
    ∀ (y x k : Nat), y < k → ∃ m, k ≤ m + y + 1 ∧ l k (x : Int) (y : Int) = fin m (Nat.gcd x y : Int) := by
  intro y
  induction y using Nat.strongRecOn with
  | _ y ih =>
    intro x k hk
    obtain ⟨k, rfl⟩ : ∃ m, k = m + 1 := ⟨k - 1, by omega⟩
    rw [hl]
    by_cases h : y = 0
    · subst h; exact ⟨k, by omega, by simp⟩
    · rw [if_pos (by omega), if_neg (by omega)]
      have e : Int.tmod (x : Int) (y : Int) = ((x % y : Nat) : Int) := by rw [Int.ofNat_tmod]
      have hlt := Nat.mod_lt x (show y > 0 by omega)
      obtain ⟨m, hm, hr⟩ := ih (x % y) hlt y k (by omega)
      exact ⟨m, by omega, by rw [e, hr, ← gcd_step x y]⟩

/-- The reference's Fits: the highest number of a kind by halving. -/
theorem ref_fits {α : Type} {l : Nat → Int → Int → Option α} {fin : Int → Option α} (bits : Nat) (hb : 1 ≤ bits) 
    (hl : ∀ k h i, l (k + 1) h i = if i > (bits : Int) then l k (wrap64 (Int.tdiv h 2)) (wrap64 (i - 1)) else fin h) :
    ∀ (d k : Nat), bits + d ≤ 64 → d < k → l k ((2 ^ (bits + d - 1) : Nat) - 1 : Int) ((bits + d : Nat) : Int) = fin ((2 ^ (bits - 1) : Nat) - 1 : Int) := by
  intro d
  induction d with
  | zero =>
    intro k _ hk
    obtain ⟨k, rfl⟩ : ∃ m, k = m + 1 := ⟨k - 1, by omega⟩
    rw [hl, if_neg (by omega)]; rfl
  | succ d ih =>
    intro k hd hk
    obtain ⟨k, rfl⟩ : ∃ m, k = m + 1 := ⟨k - 1, by omega⟩
    rw [hl, if_pos (by omega)]
    have hp : 1 ≤ 2 ^ (bits + d - 1) := Nat.one_le_two_pow
    have hq : 2 ^ (bits + d - 1) ≤ 2 ^ 62 := Nat.pow_le_pow_right (by omega) (by omega)
    have e1 : 2 ^ (bits + (d + 1) - 1) = 2 * 2 ^ (bits + d - 1) := by
      rw [show bits + (d + 1) - 1 = (bits + d - 1) + 1 by omega, Nat.pow_succ, Nat.mul_comm]
    have e2 : wrap64 (Int.tdiv ((2 ^ (bits + (d + 1) - 1) : Nat) - 1 : Int) 2) = ((2 ^ (bits + d - 1) : Nat) - 1 : Int) := by
      rw [e1]
      generalize 2 ^ (bits + d - 1) = p at hp hq
      rw [Int.tdiv_eq_ediv_of_nonneg (by omega)]
      unfold wrap64
      omega
    have e3 : wrap64 (((bits + (d + 1) : Nat) : Int) - 1) = ((bits + d : Nat) : Int) := by
      unfold wrap64; omega
    rw [e2, e3]
    exact ih k (by omega) (by omega)

/-! ### Remainders and quotients -/
def modR (a n : Int) : Int × Bool := if n < 1 then (0, false) else (a % n, true)
def divR (a n : Int) : Int × Bool := if n < 1 then (0, false) else (a / n, true)

theorem parts (a n : Int) (hn : 0 < n) : (Int.tmod a n < 0 ∧ a % n = Int.tmod a n + n ∧ a / n = Int.tdiv a n - 1) ∨ (0 ≤ Int.tmod a n ∧ a % n = Int.tmod a n ∧ a / n = Int.tdiv a n) := by
  have h1 := Int.tmod_lt_of_pos a hn
  have h2 := Int.lt_tmod_of_pos a hn
  have h3 := Int.tmod_add_mul_tdiv a n
  by_cases h : Int.tmod a n < 0
  · refine .inl ⟨h, ?_⟩
    have := (Int.ediv_emod_unique (a := a) (b := n) (r := Int.tmod a n + n) (q := Int.tdiv a n - 1) hn).2 ⟨by rw [Int.mul_sub]; omega, by omega, by omega⟩
    exact ⟨this.2, this.1⟩
  · refine .inr ⟨by omega, ?_⟩
    have := (Int.ediv_emod_unique (a := a) (b := n) (r := Int.tmod a n) (q := Int.tdiv a n) hn).2 ⟨h3, by omega, by omega⟩
    exact ⟨this.2, this.1⟩

theorem ediv_in (a n lim : Int) (hn : 0 < n) (h0 : 0 < lim) (ha : -lim ≤ a) (hb : a < lim) : -lim ≤ a / n ∧ a / n < lim := by
  have h : lim * 1 ≤ lim * n := Int.mul_le_mul_of_nonneg_left (by omega) (by omega)
  constructor
  · refine Int.le_ediv_of_mul_le hn ?_
    rw [Int.neg_mul]; omega
  · exact Int.ediv_lt_of_lt_mul hn (by omega)

theorem mod_of (wr : Int → Int) (a n lim : Int) (hw : ∀ x, -lim ≤ x → x < lim → wr x = x) (hn : n < lim) (h0 : 0 < lim) :
    (if n < 1 then some ((0 : Int), false) else (if n = 0 then none else (if (Int.tmod a n) < 0 then (some (wr ((Int.tmod a n) + n), true)) else (some (Int.tmod a n, true))))) = some (modR a n) := by
  unfold modR
  by_cases h : n < 1
  · rw [if_pos h, if_pos h]
  · rw [if_neg h, if_neg h, if_neg (by omega)]
    have h4 := Int.emod_lt_of_pos a (show 0 < n by omega)
    have h5 := Int.emod_nonneg a (show n ≠ 0 by omega)
    rcases parts a n (by omega) with ⟨h1, h2, _⟩ | ⟨h1, h2, _⟩
    · rw [if_pos h1, hw _ (by omega) (by omega), h2]
    · rw [if_neg (by omega), h2]

theorem div_of (wr : Int → Int) (a n lim : Int) (hw : ∀ x, -lim ≤ x → x < lim → wr x = x) (ha : -lim ≤ a) (hb : a < lim) (h0 : 1 < lim) :
    (if n < 1 then some ((0 : Int), false) else (if n = 0 then none else (if (Int.tmod a n) < 0 then (some (wr ((wr (Int.tdiv a n)) - 1), true)) else (some (wr (Int.tdiv a n), true))))) = some (divR a n) := by
  unfold divR
  by_cases h : n < 1
  · rw [if_pos h, if_pos h]
  · rw [if_neg h, if_neg h, if_neg (by omega)]
    have hi := ediv_in a n lim (by omega) (by omega) ha hb
    have h3 := Int.tmod_add_mul_tdiv a n
    rcases parts a n (by omega) with ⟨h1, _, h2⟩ | ⟨h1, _, h2⟩
    · have hq : Int.tdiv a n < lim := by
        by_cases e : Int.tdiv a n < lim
        · exact e
        · have e' : Int.tdiv a n = lim := by omega
          have : n * 1 ≤ n * lim := Int.mul_le_mul_of_nonneg_left (by omega) (by omega)
          have : 1 * lim ≤ n * lim := Int.mul_le_mul_of_nonneg_right (by omega) (by omega)
          have h6 := Int.lt_tmod_of_pos a (show 0 < n by omega)
          have h7 : 2 * lim ≤ n * lim ∨ n = 1 := by
            by_cases h8 : n = 1
            · exact .inr h8
            · exact .inl (Int.mul_le_mul_of_nonneg_right (by omega) (by omega))
          rw [e'] at h3
          rcases h7 with h7 | h7
          · have h9 : (n - 1) * (lim - 1) = n * lim - n - lim + 1 := by
              rw [Int.sub_mul, Int.mul_sub, Int.mul_sub]; omega
            have h10 : 0 ≤ (n - 1) * (lim - 1) := Int.mul_nonneg (by omega) (by omega)
            omega
          · subst h7; omega
      rw [if_pos h1, hw (Int.tdiv a n) (by omega) hq, hw _ (by omega) (by omega), h2]
    · rw [if_neg (by omega), hw _ (by omega) (by omega), h2]
end Go.Proofs.YtnghjojddhdlkaaDoor.Math
