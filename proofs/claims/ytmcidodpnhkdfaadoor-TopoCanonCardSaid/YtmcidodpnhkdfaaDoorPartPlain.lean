/- reader.number and reader.next, plain. -/
import Derived.Test.YtmcidodpnhkdfaaDoorPQn
import Derived.Test.YtmcidodpnhkdfaaDoorParseSpec
namespace Go.Proofs.YtmcidodpnhkdfaaDoor.PartPlain
open Go.RowKit Go.Proofs.YtmcidodpnhkdfaaDoorW.PrintWords Go.Proofs.YtmcidodpnhkdfaaDoor.ParseSpec Go.Proofs.YtmcidodpnhkdfaaDoor.PQn Go.Proofs.YtmcidodpnhkdfaaDoor.Idx
set_option linter.unusedVariables false
theorem wrap_s (n : Nat) (h : n ≤ 1048576) : wrap64 ((n : Int) + 1) = ((n + 1 : Nat) : Int) := by unfold wrap64; omega
theorem number_l (e : Int) (s : ByteArray) (pv : Value) (hs : s.size ≤ 1048576) (a : Int) : ∀ (d k i : Nat), s.size - i ≤ d → d < k → i ≤ s.size →
    topo_reader_number.l0 k e s (i : Int) pv a 0 = if a = (dg s i : Int) then some (a, (dg s i : Int), e, s, (dg s i : Int)) else some (a, (dg s i : Int), 0, s, (dg s i : Int)) := by
  intro d
  induction d with
  | zero =>
    intro k i h1 h2 h3
    obtain ⟨k, rfl⟩ : ∃ m, k = m + 1 := ⟨k - 1, by omega⟩
    have hd : isd s i = false := by
      unfold isd
      rw [decide_eq_false (show ¬ i < s.size by omega)]; rfl
    rw [dg_no hd]
    simp only [topo_reader_number.l0]
    rw [if_neg (show ¬ (i : Int) < (s.size : Int) by omega)]
  | succ d ih =>
    intro k i h1 h2 h3
    obtain ⟨k, rfl⟩ : ∃ m, k = m + 1 := ⟨k - 1, by omega⟩
    simp only [topo_reader_number.l0]
    by_cases c : isd s i = true
    · have hlt := isd_lt c
      have c' := c
      unfold isd at c'
      simp only [Bool.and_eq_true, decide_eq_true_eq] at c'
      rw [if_pos (show (i : Int) < (s.size : Int) by omega), if_pos (show (0 : Int) ≤ (i : Int) by omega), if_pos (show bt s (i : Int) ≥ 48 from c'.2.1), if_pos c'.2.2, wrap_s i (by omega), dg_yes c]
      exact ih k (i + 1) (by omega) (by omega) (by omega)
    · have c0 : isd s i = false := by simpa using c
      rw [dg_no c0]
      by_cases h4 : i < s.size
      · rw [if_pos (show (i : Int) < (s.size : Int) by omega), if_pos (show (0 : Int) ≤ (i : Int) by omega)]
        unfold isd at c0
        rw [decide_eq_true h4, Bool.true_and] at c0
        by_cases h5 : bt s (i : Int) ≥ 48
        · rw [decide_eq_true (show 48 ≤ bt s (i : Int) from h5), Bool.true_and] at c0
          rw [if_pos h5, if_neg (of_decide_eq_false c0)]
        · rw [if_neg h5]
      · rw [if_neg (show ¬ (i : Int) < (s.size : Int) by omega)]
theorem number_bad (e : Int) (s : ByteArray) (pv : Value) (hs : s.size ≤ 1048576) (i : Nat) (hi : i ≤ s.size) (h : dg s i = i) :
    topo_reader_number.f (s.size + 1) s (i : Int) pv e = some ((i : Int), (i : Int), e, s, (i : Int)) := by
  unfold topo_reader_number.f
  rw [number_l e s pv hs (i : Int) s.size (s.size + 1) i (by omega) (by omega) hi, h, if_pos rfl]
theorem number_ok (e : Int) (s : ByteArray) (pv : Value) (hs : s.size ≤ 1048576) (i : Nat) (hi : i ≤ s.size) (h : dg s i ≠ i) :
    topo_reader_number.f (s.size + 1) s (i : Int) pv e = some ((i : Int), (dg s i : Int), 0, s, (dg s i : Int)) := by
  unfold topo_reader_number.f
  rw [number_l e s pv hs (i : Int) s.size (s.size + 1) i (by omega) (by omega) hi, if_neg (by omega)]
theorem idx1 (a c : Int) (hc : 0 ≤ c ∧ c ≤ 255) (ha : 0 ≤ a ∧ a ≤ 255) : decide (Lib.indexByte [a.toNat.toUInt8] c.toNat.toUInt8 ≥ 0) = [a].contains c := by
  obtain ⟨c, rfl⟩ := Int.eq_ofNat_of_zero_le hc.1
  obtain ⟨a, rfl⟩ := Int.eq_ofNat_of_zero_le ha.1
  have e : (a.toUInt8 == c.toUInt8) = (a == c) := by
    rw [Bool.eq_iff_iff]
    simp only [beq_iff_eq]
    constructor
    · intro h
      have := congrArg UInt8.toNat h
      simp only [Nat.toUInt8_eq, UInt8.toNat_ofNat'] at this
      omega
    · rintro rfl; rfl
  unfold Lib.indexByte
  simp only [Int.toNat_natCast]
  rw [e]
  by_cases h : a = c
  · subst h; simp
  · have h1 : (a == c) = false := by simpa using h
    rw [h1]
    have h2 : ¬ (c : Int) = (a : Int) := by omega
    simp [Lib.indexByte, h2]
theorem idx2 (a b c : Int) (hc : 0 ≤ c ∧ c ≤ 255) (ha : 0 ≤ a ∧ a ≤ 255) (hb : 0 ≤ b ∧ b ≤ 255) : decide (Lib.indexByte [a.toNat.toUInt8, b.toNat.toUInt8] c.toNat.toUInt8 ≥ 0) = [a, b].contains c := by
  have h1 := idx1 a c hc ha
  have h2 := idx1 b c hc hb
  have hg := Lib.indexByte_ge [b.toNat.toUInt8] c.toNat.toUInt8
  rw [Bool.eq_iff_iff] at h1 h2 ⊢
  simp only [decide_eq_true_eq, List.contains_cons, List.contains_nil, Bool.or_false, Bool.or_eq_true, beq_iff_eq] at h1 h2 ⊢
  rw [← h1, ← h2]
  by_cases e1 : (a.toNat.toUInt8 == c.toNat.toUInt8) = true
  · unfold Lib.indexByte
    simp only [e1, if_true]
    simp [Lib.indexByte]
  · have e1' : (a.toNat.toUInt8 == c.toNat.toUInt8) = false := by simpa using e1
    have l1 : Lib.indexByte [a.toNat.toUInt8] c.toNat.toUInt8 = -1 := by
      unfold Lib.indexByte; rw [e1']; simp [Lib.indexByte]
    have l2 : Lib.indexByte [a.toNat.toUInt8, b.toNat.toUInt8] c.toNat.toUInt8 = if Lib.indexByte [b.toNat.toUInt8] c.toNat.toUInt8 == -1 then -1 else Lib.indexByte [b.toNat.toUInt8] c.toNat.toUInt8 + 1 := by
      rw [Lib.indexByte, e1']; simp
    rw [l1, l2]
    generalize Lib.indexByte [b.toNat.toUInt8] c.toNat.toUInt8 = z at hg
    by_cases hz : z = -1
    · subst hz; simp
    · have : (z == -1) = false := by simpa using hz
      rw [this]
      simp only [Bool.false_eq_true, if_false]
      omega
theorem next_gen (s : ByteArray) (pv : Value) (i : Nat) (of : ByteArray) (l : List Int) (hl : ∀ c : Int, 0 ≤ c ∧ c ≤ 255 → decide (Lib.indexByte of.data.toList c.toNat.toUInt8 ≥ 0) = l.contains c) :
    topo_reader_next.f s (i : Int) pv of = some (nxt s i l, s, (i : Int)) := by
  unfold topo_reader_next.f nxt
  by_cases h : i < s.size
  · rw [if_pos (show (i : Int) < (s.size : Int) by omega), if_pos (show (0 : Int) ≤ (i : Int) by omega)]
    simp only [strings_IndexByte.f, Option.bind_some]
    rw [hl _ (bt_range s i), decide_eq_true h, Bool.true_and]
  · rw [if_neg (show ¬ (i : Int) < (s.size : Int) by omega), decide_eq_false h, Bool.false_and]
theorem next_star (s : ByteArray) (pv : Value) (i : Nat) : topo_reader_next.f s (i : Int) pv ⟨#[42]⟩ = some (nxt s i [42], s, (i : Int)) := next_gen s pv i _ [42] (fun c hc => idx1 42 c hc (by omega))
theorem next_sign (s : ByteArray) (pv : Value) (i : Nat) : topo_reader_next.f s (i : Int) pv ⟨#[43, 45]⟩ = some (nxt s i [43, 45], s, (i : Int)) := next_gen s pv i _ [43, 45] (fun c hc => idx2 43 45 c hc (by omega) (by omega))
theorem next_comma (s : ByteArray) (pv : Value) (i : Nat) : topo_reader_next.f s (i : Int) pv ⟨#[44]⟩ = some (nxt s i [44], s, (i : Int)) := next_gen s pv i _ [44] (fun c hc => idx1 44 c hc (by omega))
end Go.Proofs.YtmcidodpnhkdfaaDoor.PartPlain
