/- The reference's Print: a number's text, what stands behind a side, the whole text. -/
import Derived.Test.YtmcidodpnhkdfaaDoorPRx
import Derived.Test.YtmcidodpnhkdfaaDoorCheckRef
import Derived.Test.YtmcidodpnhkdfaaDoorPrint
namespace Go.Proofs.YtmcidodpnhkdfaaDoor.RefPrint
open Go.RowKit Go.Proofs.YtmcidodpnhkdfaaDoorW.PrintWords Go.Proofs.YtmcidodpnhkdfaaDoor.PR Go.Proofs.YtmcidodpnhkdfaaDoor.PrintPlain Go.Proofs.YtmcidodpnhkdfaaDoor.Tail Go.Proofs.YtmcidodpnhkdfaaDoor.PrintWalk Go.Proofs.YtmcidodpnhkdfaaDoor.CheckPlain Go.Proofs.YtmcidodpnhkdfaaDoor.CheckRef
set_option linter.unusedVariables false
set_option linter.unusedSimpArgs false
theorem u64_wrap (x : Int) : IntKind.u64.wrap x = x % 18446744073709551616 := by
  simp [IntKind.wrap, IntKind.bits, IntKind.signed]
theorem size_at (a : Int) (a0 : -9223372036854775808 ≤ a) (a1 : a ≤ 9223372036854775807) : vivariumref01_size.f a = some (a.natAbs : Int) := by
  unfold vivariumref01_size.f
  split
  · congr 1; rw [u64_wrap, u64_wrap]; unfold wrap64; omega
  · congr 1; rw [u64_wrap]; omega
theorem str_append (a b : List UInt8) : (⟨a.toArray⟩ : ByteArray) ++ (⟨b.toArray⟩ : ByteArray) = ⟨(a ++ b).toArray⟩ := by
  apply ByteArray.ext
  simp
theorem one_digit (x : Int) (h0 : 0 ≤ x) (h1 : x ≤ 18446744073709551615) : strOfNums [(IntKind.u64.wrap (48 + (Int.tmod x 10))) % 256] = ⟨[UInt8.ofNat (48 + x.toNat % 10)].toArray⟩ := by
  have e : ((IntKind.u64.wrap (48 + (Int.tmod x 10))) % 256).toNat = 48 + x.toNat % 10 := by
    rw [u64_wrap, Int.tmod_eq_emod_of_nonneg h0]; omega
  simp [strOfNums, e]
def endText (n : Int) (l : List UInt8) : ByteArray := if n < 0 then ⟨(45 :: l).toArray⟩ else ⟨l.toArray⟩
theorem text_end (n : Int) (l : List UInt8) (hl : l ≠ []) (hs : l.length ≤ 1000) (k : Nat) : vivariumref01_Text.l0 (k + 1) n 0 ⟨l.toArray⟩ = some (endText n l) := by
  simp only [vivariumref01_Text.l0]
  rw [if_neg (by omega), if_neg (by rw [ByteArray.toList_eq]; simpa using hl)]
  unfold endText
  by_cases h : n < 0
  · rw [if_pos h, if_pos h, if_pos (by simp [← ByteArray.size_data]; omega)]
    rw [str_append [45] l]; rfl
  · rw [if_neg h, if_neg h]
theorem text_loop (n : Int) : ∀ (m u : Nat) (l : List UInt8) (k : Nat), 0 < u → u ≤ 18446744073709551615 → u < 10 ^ m → l.length + m ≤ 100 → m + 1 < k →
    vivariumref01_Text.l0 k n (u : Int) ⟨l.toArray⟩ = some (endText n (Lib.decDigits u ++ l)) := by
  intro m
  induction m with
  | zero => intro u l k h0 hb h1; simp at h1; omega
  | succ m ih =>
    intro u l k h0 hb h1 hl hk
    obtain ⟨k, rfl⟩ : ∃ q, k = q + 1 := ⟨k - 1, by omega⟩
    have hstep : ∀ q, vivariumref01_Text.l0 (q + 1) n (u : Int) ⟨l.toArray⟩ = vivariumref01_Text.l0 q n ((u / 10 : Nat) : Int) ⟨(UInt8.ofNat (48 + u % 10) :: l).toArray⟩ := by
      intro q
      simp only [vivariumref01_Text.l0]
      rw [if_pos (by omega)]
      simp only [Option.bind_some]
      rw [one_digit _ (by omega) (by omega), str_append, if_pos (by simp [← ByteArray.size_data]; omega), u64_wrap, Int.tdiv_eq_ediv_of_nonneg (by omega), Int.toNat_natCast]
      congr 1
      omega
    rw [hstep]
    by_cases h10 : u < 10
    · obtain ⟨k, rfl⟩ : ∃ q, k = q + 1 := ⟨k - 1, by omega⟩
      rw [show u / 10 = 0 by omega]
      rw [show ((0 : Nat) : Int) = 0 from rfl, text_end n _ (by simp) (by simp; omega), dec_small h10, Nat.mod_eq_of_lt h10]
      rfl
    · rw [ih (u / 10) _ k (by omega) (by omega) (by rw [Nat.pow_succ] at h1; omega) (by simp; omega) (by omega), dec_big h10]
      simp
theorem ref_text (q : Nat) (n : Int) (h0 : -9223372036854775808 ≤ n) (h1 : n ≤ 9223372036854775807) : vivariumref01_Text.f (q + 30) n = some ⟨(Lib.itoa n).toArray⟩ := by
  unfold vivariumref01_Text.f
  rw [size_at n h0 h1]
  simp only [Option.bind_some]
  have ef : ∀ l, endText n l = ⟨(if n < 0 then 45 :: l else l).toArray⟩ := fun l => by unfold endText; split <;> rfl
  have ei : Lib.itoa n = (if n < 0 then 45 :: Lib.decDigits n.natAbs else Lib.decDigits n.natAbs) := by
    unfold Lib.itoa
    by_cases h : n < 0
    · rw [if_pos h, if_pos h]
    · rw [if_neg h, if_neg h, show n.toNat = n.natAbs by omega]
  by_cases h : n = 0
  · subst h
    have hstep : ∀ q, vivariumref01_Text.l0 (q + 1) 0 0 ⟨([] : List UInt8).toArray⟩ = vivariumref01_Text.l0 q 0 0 ⟨[48].toArray⟩ := by
      intro q
      simp only [vivariumref01_Text.l0]
      rw [if_neg (show ¬ (0 : Int) > 0 by omega), if_pos (by rw [ByteArray.toList_eq])]
      simp only [Option.bind_some]
      rw [one_digit 0 (by omega) (by omega), str_append, if_pos (by simp [← ByteArray.size_data]), u64_wrap]
      rfl
    have hd : Lib.decDigits (Int.natAbs 0) = [48] := by simp [Lib.decDigits]
    rw [show ((Int.natAbs 0 : Nat) : Int) = 0 from rfl, show (⟨#[]⟩ : ByteArray) = ⟨([] : List UInt8).toArray⟩ from rfl, hstep (q + 29), text_end 0 _ (by simp) (by simp) (q + 28), ef, ei, hd]
  · have := text_loop n 20 n.natAbs [] (q + 30) (by omega) (by omega) (by
      have : (10 : Nat) ^ 20 = 100000000000000000000 := by decide
      omega) (by simp) (by omega)
    rw [show (⟨#[]⟩ : ByteArray) = ⟨([] : List UInt8).toArray⟩ from rfl, this, ef, ei, List.append_nil]

/-! ### What stands behind a side -/
theorem size_of (l : List UInt8) : (⟨l.toArray⟩ : ByteArray).size = l.length := by simp [← ByteArray.size_data]
theorem tail_at (q : Nat) (k w h u s want : Int) (s0 : -65536 ≤ s) (s1 : s ≤ 65536) : vivariumref04_tail.f (q + 31) k w h u s want = some ⟨(tl k u s want).toArray⟩ := by
  have hl := itoa_len s s0 s1
  have ht := ref_text q s (by omega) (by omega)
  have j : ∀ l : List UInt8, l.length ≤ 10 → vivariumref04_tail.j0 (q + 31) ⟨l.toArray⟩ k w h u s = some ⟨(l ++ ((if 0 < s then [43] else []) ++ (if s = 0 then [] else Lib.itoa s))).toArray⟩ := by
    intro l h1
    rw [show q + 31 = (q + 30) + 1 by omega]
    simp only [vivariumref04_tail.j0]
    rw [ht]
    simp only [Option.bind_some, show (⟨#[43]⟩ : ByteArray) = ⟨([43] : List UInt8).toArray⟩ from rfl, str_append, size_of, List.length_append, List.length_singleton]
    by_cases c : s > 0
    · rw [if_pos c, if_pos (by omega), if_neg (by omega), if_pos (by omega), if_pos (by omega), if_neg (by omega), List.append_assoc]
    · rw [if_neg c, if_neg (show ¬ 0 < s by omega), List.nil_append]
      by_cases c0 : s = 0
      · rw [if_pos c0, if_pos c0, List.append_nil]
      · rw [if_neg c0, if_neg c0, if_pos (by omega)]
  unfold vivariumref04_tail.f tl
  by_cases c1 : u = want
  · rw [if_pos c1, if_pos c1]
    by_cases c3 : k = 3
    · rw [if_pos c3, if_pos c3]
      exact j [42] (by simp)
    · rw [if_neg c3, if_neg c3]
      exact j [] (by simp)
  · rw [if_neg c1, if_neg c1]
theorem letter_at (k : Int) (h1 : 1 ≤ k) (h5 : k ≤ 5) : (⟨#[80, 84, 75, 67, 83]⟩ : ByteArray).extract (((k - 1) % 256) : Int).toNat (k : Int).toNat = ⟨[letter k].toArray⟩ := by
  obtain rfl | rfl | rfl | rfl | rfl : k = 1 ∨ k = 2 ∨ k = 3 ∨ k = 4 ∨ k = 5 := by omega
  all_goals decide
theorem print_at (k w h u s : Int) (hO : OkT k w h u s) : vivariumref04_Print.f 40 k w h u s = some (S (printL k w h u s), 0) := by
  have hc := ok_check k w h u s hO
  obtain ⟨a1, a2, a3, a4, a5, a6, a7, a8, a9⟩ := hO
  have s0 : -65536 ≤ s := by omega
  have s1 : s ≤ 65536 := by omega
  clear a9
  have tw := ref_text 9 w (by omega) (by omega)
  have th := ref_text 9 h (by omega) (by omega)
  have t1 := tail_at 8 k w h u s 1 s0 s1
  have t2 := tail_at 8 k w h u s 2 s0 s1
  have lw := itoa_len w (by omega) (by omega)
  have lh := itoa_len h (by omega) (by omega)
  have l1 := tl_len k u s 1 s0 s1
  have l2 := tl_len k u s 2 s0 s1
  unfold vivariumref04_Print.f
  rw [ref_check k w h u s 35, hc]
  simp only [Option.bind_some, if_true]
  rw [if_pos (by omega), if_pos (by omega), if_pos a2, letter_at k a1 a2]
  have j : ∀ b : Bool, vivariumref04_Print.j0 40 ⟨[letter k].toArray⟩ b k w h u s = some (if b = true then (S [letter k], 0) else if k = 5 then (S (letter k :: Lib.itoa w), 0) else (S (letter k :: (Lib.itoa w ++ (tl k u s 1 ++ (44 :: (Lib.itoa h ++ tl k u s 2))))), 0)) := by
    intro b
    rw [show (40 : Nat) = 39 + 1 from rfl]
    simp only [vivariumref04_Print.j0]
    rw [tw, th, t1, t2]
    simp only [Option.bind_some, show (⟨#[44]⟩ : ByteArray) = ⟨([44] : List UInt8).toArray⟩ from rfl, str_append, size_of, List.length_append, List.length_singleton]
    by_cases cb : b = true
    · rw [if_pos cb, if_pos cb]; rfl
    · rw [if_neg cb, if_neg cb]
      by_cases c5 : k = 5
      · rw [if_pos c5, if_pos c5, if_pos (by omega)]; rfl
      · rw [if_neg c5, if_neg c5, if_pos (by omega), if_pos (by omega), if_pos (by omega), if_pos (by omega), if_pos (by omega)]
        unfold S
        simp
  unfold printL
  by_cases cw : w = 0
  · rw [if_pos cw, j]
    by_cases ch : h = 0
    · have : (h == 0) = true := beq_iff_eq.mpr ch
      rw [this, if_pos rfl, if_pos ⟨cw, ch⟩]
    · have : (h == 0) = false := beq_eq_false_iff_ne.mpr ch
      rw [this, if_neg (by simp), if_neg (show ¬ (w = 0 ∧ h = 0) from fun z => ch z.2)]
      by_cases c5 : k = 5
      · rw [if_pos c5, if_pos c5, List.append_nil]
      · rw [if_neg c5, if_neg c5]
  · rw [if_neg cw, j, if_neg (by simp), if_neg (show ¬ (w = 0 ∧ h = 0) from fun z => cw z.1)]
    by_cases c5 : k = 5
    · rw [if_pos c5, if_pos c5, List.append_nil]
    · rw [if_neg c5, if_neg c5]
theorem print_bad (k w h u s : Int) (hc : checkR k w h u s ≠ 0) : vivariumref04_Print.f 40 k w h u s = some (⟨#[]⟩, checkR k w h u s) := by
  unfold vivariumref04_Print.f
  rw [ref_check k w h u s 35]
  simp only [Option.bind_some]
  rw [if_neg hc]
end Go.Proofs.YtmcidodpnhkdfaaDoor.RefPrint
