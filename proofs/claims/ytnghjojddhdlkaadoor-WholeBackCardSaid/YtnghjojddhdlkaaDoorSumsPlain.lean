/- Plain laws for WholeSums: sums and products that wrap round, and how the program sees it. No program in sight. -/
import Derived.Test.YtnghjojddhdlkaaDoorMath
namespace Go.Proofs.YtnghjojddhdlkaaDoor.SumsPlain
open Go.RowKit Go.Proofs.YtnghjojddhdlkaaDoor.Math
set_option linter.unusedVariables false

def addR (lim a b : Int) : Int × Bool := if -lim ≤ a + b ∧ a + b < lim then (a + b, true) else (0, false)
def mulR (lim a b : Int) : Int × Bool := if -lim ≤ a * b ∧ a * b < lim then (a * b, true) else (0, false)
/-- A kind's wrap. -/
structure Wr (lim : Int) (wr : Int → Int) : Prop where
  lo : ∀ x, -lim ≤ wr x
  hi : ∀ x, wr x < lim
  off : ∀ x, ∃ m, x = wr x + m * (2 * lim)
theorem wr8 : Wr 128 IntKind.i8.wrap := ⟨fun x => by rw [i8_wrap]; omega, fun x => by rw [i8_wrap]; omega, fun x => ⟨(x + 128) / 256, by rw [i8_wrap]; omega⟩⟩
theorem wr16 : Wr 32768 IntKind.i16.wrap := ⟨fun x => by rw [i16_wrap]; omega, fun x => by rw [i16_wrap]; omega, fun x => ⟨(x + 32768) / 65536, by rw [i16_wrap]; omega⟩⟩
theorem wr32 : Wr 2147483648 wrap32 := ⟨fun x => by unfold wrap32; omega, fun x => by unfold wrap32; omega, fun x => ⟨(x + 2147483648) / 4294967296, by unfold wrap32; omega⟩⟩
theorem wr64 : Wr 9223372036854775808 wrap64 := ⟨fun x => by unfold wrap64; omega, fun x => by unfold wrap64; omega, fun x => ⟨(x + 9223372036854775808) / 18446744073709551616, by unfold wrap64; omega⟩⟩

/-- A multiple of 2 lim that lies nearer to nought than that is nought. -/
theorem near0 (m L : Int) (hL : 0 < L) (h0 : -L < m * L) (h1 : m * L < L) : m = 0 := by
  by_cases h : m ≥ 1
  · have := Int.mul_le_mul_of_nonneg_right h (show 0 ≤ L by omega); omega
  · by_cases h' : m ≤ -1
    · have := Int.mul_le_mul_of_nonneg_right h' (show 0 ≤ L by omega); omega
    · omega
theorem Wr.same {lim : Int} {wr : Int → Int} (W : Wr lim wr) (hl : 0 < lim) {x : Int} (h0 : -lim ≤ x) (h1 : x < lim) : wr x = x := by
  obtain ⟨m, hm⟩ := W.off x
  have a := W.lo x; have b := W.hi x
  have := near0 m (2 * lim) (by omega) (by omega) (by omega)
  subst this; omega
theorem Wr.up {lim : Int} {wr : Int → Int} (W : Wr lim wr) (hl : 0 < lim) {x : Int} (h0 : lim ≤ x) (h1 : x < 2 * lim) : wr x = x - 2 * lim := by
  obtain ⟨m, hm⟩ := W.off x
  have a := W.lo x; have b := W.hi x
  have e : (m - 1) * (2 * lim) = m * (2 * lim) - 2 * lim := by rw [Int.sub_mul, Int.one_mul]
  have := near0 (m - 1) (2 * lim) (by omega) (by omega) (by omega)
  obtain rfl : m = 1 := by omega
  omega
theorem Wr.down {lim : Int} {wr : Int → Int} (W : Wr lim wr) (hl : 0 < lim) {x : Int} (h0 : -(2 * lim) ≤ x) (h1 : x < -lim) : wr x = x + 2 * lim := by
  obtain ⟨m, hm⟩ := W.off x
  have a := W.lo x; have b := W.hi x
  have e : (m + 1) * (2 * lim) = m * (2 * lim) + 2 * lim := by rw [Int.add_mul, Int.one_mul]
  have := near0 (m + 1) (2 * lim) (by omega) (by omega) (by omega)
  obtain rfl : m = -1 := by omega
  omega

theorem add_of {lim : Int} {wr : Int → Int} (W : Wr lim wr) (hl : 0 < lim) (a b : Int) (a0 : -lim ≤ a) (a1 : a < lim) (b0 : -lim ≤ b) (b1 : b < lim) :
    (if b ≥ 0 then (if (wr (a + b)) < a then (some ((0 : Int), false)) else (if b < 0 then (if (wr (a + b)) > a then (some (0, false)) else (some (wr (a + b), true))) else (some (wr (a + b), true)))) else (if b < 0 then (if (wr (a + b)) > a then (some (0, false)) else (some (wr (a + b), true))) else (some (wr (a + b), true)))) = some (addR lim a b) := by
  unfold addR
  by_cases h1 : -lim ≤ a + b
  · by_cases h2 : a + b < lim
    · rw [W.same hl h1 h2, if_pos (show -lim ≤ a + b ∧ a + b < lim from ⟨h1, h2⟩)]
      by_cases hb : b ≥ 0
      · rw [if_pos hb, if_neg (by omega), if_neg (by omega)]
      · rw [if_neg hb, if_pos (show b < 0 by omega), if_neg (by omega)]
    · rw [W.up hl (by omega) (by omega), if_neg (show ¬ (-lim ≤ a + b ∧ a + b < lim) from fun h => h2 h.2), if_pos (show b ≥ 0 by omega), if_pos (by omega)]
  · rw [W.down hl (by omega) (by omega), if_neg (show ¬ (-lim ≤ a + b ∧ a + b < lim) from fun h => h1 h.1), if_neg (show ¬ b ≥ 0 by omega), if_pos (show b < 0 by omega), if_pos (by omega)]

theorem tdiv_bd (p b lim : Int) (hp : -lim ≤ p) (hp' : p < lim) (hl : 0 < lim) : -lim ≤ Int.tdiv p b ∧ Int.tdiv p b ≤ lim := by
  have h := Int.natAbs_tdiv_le_natAbs p b
  omega
theorem tmod_bd (p b : Int) (hb : b ≠ 0) : (Int.tmod p b).natAbs < b.natAbs := by
  rw [Int.natAbs_tmod]; exact Nat.mod_lt _ (by omega)

/-- The program's way to see that a product has wrapped round. -/
theorem mul_see {lim : Int} {wr : Int → Int} (W : Wr lim wr) (hl : 1 < lim) (a b : Int) (a0 : -lim ≤ a) (a1 : a < lim) (b0 : -lim ≤ b) (b1 : b < lim) (ha : a ≠ 0) (hb : b ≠ 0) :
    ((-lim ≤ a * b ∧ a * b < lim) ∧ wr (a * b) = a * b ∧ wr (Int.tdiv (wr (a * b)) b) = a ∧ wr (Int.tdiv (wr (a * b)) a) = b) ∨
    (¬ (-lim ≤ a * b ∧ a * b < lim) ∧ (wr (Int.tdiv (wr (a * b)) b) = a → wr (Int.tdiv (wr (a * b)) a) ≠ b)) := by
  by_cases h : -lim ≤ a * b ∧ a * b < lim
  · refine .inl ⟨h, ?_⟩
    have e := W.same (by omega) h.1 h.2
    rw [e, Int.mul_tdiv_cancel _ hb, Int.mul_tdiv_cancel_left _ ha]
    exact ⟨rfl, W.same (by omega) a0 a1, W.same (by omega) b0 b1⟩
  · refine .inr ⟨h, fun h1 h2 => ?_⟩
    obtain ⟨m, hm⟩ := W.off (a * b)
    have p0 := W.lo (a * b); have p1 := W.hi (a * b)
    generalize wr (a * b) = p at *
    obtain ⟨t0, t1⟩ := tdiv_bd p b lim p0 p1 (by omega)
    have hr := tmod_bd p b hb
    have he := Int.tmod_add_mul_tdiv p b
    by_cases ht : Int.tdiv p b < lim
    · rw [W.same (by omega) t0 ht] at h1
      rw [h1, Int.mul_comm b a] at he
      have e0 := near0 m (2 * lim) (by omega) (by omega) (by omega)
      subst e0
      apply h
      constructor <;> omega
    · have e1 : Int.tdiv p b = lim := by omega
      have ew : wr lim = -lim := by have := W.up (x := lim) (by omega) (by omega) (by omega); omega
      rw [e1, ew] at h1
      subst h1
      have hp : p = -lim := by
        have hq := Int.natAbs_tdiv_le_natAbs p b
        rw [e1] at hq
        omega
      have hb1 : b = -1 := by
        rw [e1, hp] at he
        rw [hp] at hr
        by_cases c1 : b = -1
        · exact c1
        · exfalso
          by_cases c2 : b ≥ 1
          · have := Int.mul_le_mul_of_nonneg_right c2 (show 0 ≤ lim by omega); omega
          · have := Int.mul_le_mul_of_nonneg_right (show b ≤ -2 by omega) (show 0 ≤ lim by omega); omega
      rw [hp, Int.tdiv_self (by omega), W.same (by omega) (by omega) hl] at h2
      omega

theorem mul_of {lim : Int} {wr : Int → Int} (W : Wr lim wr) (hl : 1 < lim) (a b : Int) (a0 : -lim ≤ a) (a1 : a < lim) (b0 : -lim ≤ b) (b1 : b < lim) (j0 : Nat → Int → Int → Bool → Option (Int × Bool))
    (hj : ∀ k a b t, j0 (k + 1) a b t = if t = true then (some (0, true)) else (if b = 0 then (none) else (if (wr (Int.tdiv (wr (a * b)) b)) = a then (if a = 0 then (none) else (if (wr (Int.tdiv (wr (a * b)) a)) = b then (some (wr (a * b), true)) else (some (0, false)))) else (some (0, false))))) (k : Nat) :
    (if a = 0 then (j0 (k + 1) a b true) else (j0 (k + 1) a b (b == 0))) = some (mulR lim a b) := by
  unfold mulR
  by_cases ha : a = 0
  · subst ha
    rw [if_pos rfl, hj, if_pos rfl, Int.zero_mul, if_pos (by omega)]
  · rw [if_neg ha, hj]
    by_cases hb : b = 0
    · subst hb
      rw [if_pos (by simp), Int.mul_zero, if_pos (by omega)]
    · rw [if_neg (by simpa using hb), if_neg hb]
      rcases mul_see W hl a b a0 a1 b0 b1 ha hb with ⟨h1, h2, h3, h4⟩ | ⟨h1, h2⟩
      · rw [if_pos h3, if_neg ha, if_pos h4, if_pos h1, h2]
      · rw [if_neg h1]
        by_cases h3 : wr (Int.tdiv (wr (a * b)) b) = a
        · rw [if_pos h3, if_neg ha, if_neg (h2 h3)]
        · rw [if_neg h3]
end Go.Proofs.YtnghjojddhdlkaaDoor.SumsPlain
