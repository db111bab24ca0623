import Derived.Test.YtlghmadoogblcaaRowp
namespace Go.Proofs.Ytlghmadoogblcaa.Rowp
open Go Go.RowKit Go.Proofs.Ytlghmadoogblcaa.PW Go.Proofs.YtlghmadoogblcaaW.PrintWords Go.Proofs.YtlghmadoogblcaaW.PrintLast Go.Proofs.YtlghmadoogblcaaW.PrintMore Go.Proofs.Ytlghmadoogblcaa.Bits
set_option maxRecDepth 100000
set_option linter.unusedVariables false

theorem good_and {n : Nat} {A B : Nat → Nat} (ga : Good n A) (gb : Good n B) : Good n (fun t => A t &&& B t) :=
  ⟨ga.le, fun i hi => bits_and_n _ _ (ga.lt i hi) (gb.lt i hi), fun h => by
    show (A (nw n - 1) &&& B (nw n - 1)) &&& mask n = _
    rw [Nat.and_assoc, gb.last h]⟩
theorem good_or {n : Nat} {A B : Nat → Nat} (ga : Good n A) (gb : Good n B) : Good n (fun t => A t ||| B t) :=
  ⟨ga.le, fun i hi => bits_or_n _ _ (ga.lt i hi) (gb.lt i hi), fun h => by
    show (A (nw n - 1) ||| B (nw n - 1)) &&& mask n = _
    rw [Nat.and_or_distrib_right, ga.last h, gb.last h]⟩
theorem good_xor {n : Nat} {A B : Nat → Nat} (ga : Good n A) (gb : Good n B) : Good n (fun t => A t ^^^ B t) :=
  ⟨ga.le, fun i hi => bits_xor_n _ _ (ga.lt i hi) (gb.lt i hi), fun h => by
    show (A (nw n - 1) ^^^ B (nw n - 1)) &&& mask n = _
    rw [Nat.and_xor_distrib_right, ga.last h, gb.last h]⟩
theorem good_not {n : Nat} {A : Nat → Nat} (ga : Good n A) : Good n (notW n A) := by
  refine ⟨ga.le, fun i hi => ?_, fun h => ?_⟩
  · unfold notW
    split
    · exact bits_and_n _ _ (bits_xor_n _ _ (ga.lt i hi) (by decide)) (mask_lt n)
    · exact bits_xor_n _ _ (ga.lt i hi) (by decide)
  · unfold notW
    have : nw n - 1 + 1 = nw n := by unfold nw; omega
    rw [if_pos this, Nat.and_assoc, Nat.and_self]

/-- A word under 2^64 is itself under ones. -/
theorem and_ones (x : Nat) (h : x < 18446744073709551616) : x &&& ones = x := by
  have := Nat.and_two_pow_sub_one_eq_mod x 64
  rw [show ones = 2 ^ 64 - 1 from rfl, this, Nat.mod_eq_of_lt h]
/-- Place by place. -/
theorem ones_bit (i : Nat) : ones.testBit i = decide (i < 64) := by
  rw [show ones = 2 ^ 64 - 1 from rfl, Nat.testBit_two_pow_sub_one]
theorem high (x i : Nat) (h : x < 18446744073709551616) (hi : ¬ i < 64) : x.testBit i = false :=
  Nat.testBit_lt_two_pow (Nat.lt_of_lt_of_le h (Nat.pow_le_pow_right (n := 2) (i := 64) (by decide) (by omega)))

theorem demorgan (a b : Nat) : (a &&& b) ^^^ ones = (a ^^^ ones) ||| (b ^^^ ones) ∨ ¬ (a < 18446744073709551616 ∧ b < 18446744073709551616) := by
  by_cases h : a < 18446744073709551616 ∧ b < 18446744073709551616
  · refine .inl (Nat.eq_of_testBit_eq fun i => ?_)
    simp only [Nat.testBit_xor, Nat.testBit_and, Nat.testBit_or, ones_bit]
    by_cases hi : i < 64
    · simp only [hi, decide_true]; cases a.testBit i <;> cases b.testBit i <;> rfl
    · simp [hi, high a i h.1 hi, high b i h.2 hi]
  · exact .inr h

theorem nand_nots {n : Nat} {A B : Nat → Nat} (ga : Good n A) (gb : Good n B) (t : Nat) (ht : t < nw n) :
    notW n (fun t => A t &&& B t) t = notW n A t ||| notW n B t := by
  have h := (demorgan (A t) (B t)).resolve_right (fun h => h ⟨ga.lt t ht, gb.lt t ht⟩)
  unfold notW
  split
  · show ((A t &&& B t) ^^^ ones) &&& mask n = _
    rw [h, Nat.and_or_distrib_right]
  · exact h
theorem xor_without {n : Nat} {A B : Nat → Nat} (ga : Good n A) (gb : Good n B) (t : Nat) (ht : t < nw n) :
    A t ^^^ B t = (A t ||| B t) &&& notW n (fun t => A t &&& B t) t := by
  have key : A t ^^^ B t = (A t ||| B t) &&& ((A t &&& B t) ^^^ ones) := by
    refine Nat.eq_of_testBit_eq fun i => ?_
    simp only [Nat.testBit_xor, Nat.testBit_and, Nat.testBit_or, ones_bit]
    by_cases hi : i < 64
    · simp only [hi, decide_true]; cases (A t).testBit i <;> cases (B t).testBit i <;> rfl
    · simp [hi, high _ i (ga.lt t ht) hi, high _ i (gb.lt t ht) hi]
  unfold notW
  split
  · rename_i h
    have h0 : 0 < n := by unfold nw at h; omega
    have e : t = nw n - 1 := by omega
    have g := (good_xor ga gb).last h0
    simp only [← e] at g
    show _ = _ &&& (((A t &&& B t) ^^^ ones) &&& mask n)
    rw [← Nat.and_assoc, ← key, g]
  · exact key
theorem not_not {n : Nat} {A : Nat → Nat} (ga : Good n A) (t : Nat) (ht : t < nw n) : notW n (notW n A) t = A t := by
  have h1 : ∀ x, (x ^^^ ones) ^^^ ones = x := fun x => by rw [Nat.xor_assoc, Nat.xor_self, Nat.xor_zero]
  unfold notW
  by_cases h : t + 1 = nw n
  · rw [if_pos h, if_pos h]
    have h0 : 0 < n := by unfold nw at h; omega
    have e : t = nw n - 1 := by omega
    have g := ga.last h0
    rw [← e] at g
    have hm : mask n &&& ones = mask n := and_ones _ (mask_lt n)
    refine Nat.eq_of_testBit_eq fun i => ?_
    have gi := congrArg (fun x => x.testBit i) g
    have mi := congrArg (fun x => x.testBit i) hm
    simp only [Nat.testBit_xor, Nat.testBit_and] at gi mi ⊢
    revert gi mi
    cases (A t).testBit i <;> cases (mask n).testBit i <;> cases ones.testBit i <;> simp
  · rw [if_neg h, if_neg h, h1]

end Go.Proofs.Ytlghmadoogblcaa.Rowp
