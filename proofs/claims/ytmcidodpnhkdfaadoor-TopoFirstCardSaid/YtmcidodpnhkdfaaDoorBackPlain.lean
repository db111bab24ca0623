/- Plain laws on texts: what is read may be; an error has no topology, and a place in the text. -/
import Derived.Test.YtmcidodpnhkdfaaDoorPrintPlain
namespace Go.Proofs.YtmcidodpnhkdfaaDoor.BackPlain
open Go.RowKit Go.Proofs.YtmcidodpnhkdfaaDoorW.PrintWords Go.Proofs.YtmcidodpnhkdfaaDoor.ParseSpec Go.Proofs.YtmcidodpnhkdfaaDoor.PrintPlain
set_option linter.unusedVariables false
set_option linter.unusedSimpArgs false

theorem dgf_digits (s : ByteArray) : ∀ f i j, i ≤ j → j < dgf s f i → isd s j = true
  | 0, i, j, h1, h2 => by simp only [dgf] at h2; omega
  | f + 1, i, j, h1, h2 => by
    simp only [dgf] at h2
    by_cases c : isd s i = true
    · rw [if_pos c] at h2
      by_cases e : j = i
      · rw [e]; exact c
      · exact dgf_digits s f (i + 1) j (by omega) h2
    · rw [if_neg c] at h2; omega
theorem dg_digits {s : ByteArray} {i j : Nat} (h1 : i ≤ j) (h2 : j < dg s i) : isd s j = true := dgf_digits s _ i j h1 h2
theorem valf_pos (s : ByteArray) : ∀ f i n, 0 ≤ n → 0 ≤ valf s f i n
  | 0, _, n, h => h
  | f + 1, i, n, h => valf_pos s f (i + 1) _ (stepv_range n _ h).1
theorem val_pos (s : ByteArray) (i j : Nat) : 0 ≤ val s i j := valf_pos s _ _ _ (Int.le_refl 0)
/-- Is a byte a sign? -/
def isSign (b : Int) : Prop := b = 43 ∨ b = 45
theorem digit_no_sign {s : ByteArray} {i : Nat} (h : isd s i = true) : ¬ isSign (bt s (i : Int)) := by
  unfold isd at h
  simp only [Bool.and_eq_true] at h
  have h1 := of_decide_eq_true h.2.1
  have h2 := of_decide_eq_true h.2.2
  unfold isSign
  omega
/-- What is known of a part. -/
structure Pf (s : ByteArray) (tail : Bool) (p : Pt) : Prop where
  da : isd s p.at_ = true
  star : p.star < 0 ∨ ∃ n : Nat, p.star = (n : Int) ∧ n < s.size ∧ tail = true
  sign : p.sign < 0 ∨ ∃ n : Nat, p.sign = ((n + 1 : Nat) : Int) ∧ n + 1 < s.size ∧ tail = true ∧ isSign (bt s ((n + 1 : Nat) : Int)) ∧ ¬ isSign (bt s (n : Int))
theorem nxt_at {s : ByteArray} {i : Nat} {of : List Int} (h : nxt s i of = true) : i < s.size ∧ of.contains (bt s i) = true := by
  unfold nxt at h
  simp only [Bool.and_eq_true] at h
  exact ⟨of_decide_eq_true h.1, h.2⟩
theorem takes_facts (s : ByteArray) (i : Nat) (tail : Bool) (hi : i ≤ s.size) :
    (takes s i tail).2.1 ≤ s.size ∧ i ≤ (takes s i tail).2.1 ∧ ((takes s i tail).2.2 = 0 ∨ (takes s i tail).2.2 = 41 ∨ (takes s i tail).2.2 = 43) ∧ ((takes s i tail).2.2 = 0 → Pf s tail (takes s i tail).1) := by
  have d1 := dg_ge s i
  have d2 := dg_le hi
  unfold takes
  simp only
  by_cases c : dg s i = i
  · rw [if_pos c]
    exact ⟨hi, Nat.le_refl _, .inr (.inl rfl), fun h => absurd h (by simp)⟩
  rw [if_neg c]
  have da : isd s i = true := dg_digits (Nat.le_refl _) (by omega)
  have st : starAt s (dg s i) tail < 0 ∨ ∃ n : Nat, starAt s (dg s i) tail = (n : Int) ∧ n < s.size ∧ tail = true := by
    unfold starAt
    by_cases h : (tail && nxt s (dg s i) [42]) = true
    · rw [if_pos h]
      simp only [Bool.and_eq_true] at h
      exact .inr ⟨_, rfl, (nxt_at h.2).1, h.1⟩
    · rw [if_neg h]; exact .inl (by omega)
  have bh : dg s i ≤ behind s (dg s i) tail ∧ behind s (dg s i) tail ≤ s.size ∧ ∃ n : Nat, behind s (dg s i) tail = n + 1 ∧ ¬ isSign (bt s (n : Int)) := by
    unfold behind
    by_cases h : (tail && nxt s (dg s i) [42]) = true
    · rw [if_pos h]
      simp only [Bool.and_eq_true] at h
      obtain ⟨h1, h2⟩ := nxt_at h.2
      refine ⟨by omega, by omega, dg s i, rfl, ?_⟩
      have : bt s (dg s i : Int) = 42 := by simpa using h2
      unfold isSign; omega
    · rw [if_neg h]
      refine ⟨Nat.le_refl _, d2, dg s i - 1, by omega, digit_no_sign (dg_digits (i := i) (by omega) (by omega))⟩
  obtain ⟨b1, b2, n, b3, b4⟩ := bh
  by_cases c2 : (tail && nxt s (behind s (dg s i) tail) [43, 45]) = true
  · rw [if_pos c2]
    simp only [Bool.and_eq_true] at c2
    obtain ⟨t1, t2⟩ := nxt_at c2.2
    have f1 := dg_ge s (behind s (dg s i) tail + 1)
    have f2 : dg s (behind s (dg s i) tail + 1) ≤ s.size := dg_le (by omega)
    by_cases c3 : dg s (behind s (dg s i) tail + 1) = behind s (dg s i) tail + 1
    · rw [if_pos c3]
      exact ⟨by simpa using (by omega : behind s (dg s i) tail + 1 ≤ s.size), by simpa using (by omega : i ≤ behind s (dg s i) tail + 1), .inr (.inr rfl), fun h => absurd h (by simp)⟩
    · rw [if_neg c3]
      refine ⟨f2, by simpa using (by omega : i ≤ dg s (behind s (dg s i) tail + 1)), .inl rfl, fun _ => ⟨da, st, .inr ⟨n, by simp only [b3], by omega, c2.1, ?_, b4⟩⟩⟩
      rw [← b3]
      have : bt s (behind s (dg s i) tail : Int) = 43 ∨ bt s (behind s (dg s i) tail : Int) = 45 := by simpa using t2
      exact this
  · rw [if_neg c2]
    exact ⟨b2, by simpa using (by omega : i ≤ behind s (dg s i) tail), .inl rfl, fun _ => ⟨da, st, .inl (by simp)⟩⟩
/-- What is known of a form. -/
theorem form_facts (s : ByteArray) (k : Int) (h1 : 1 ≤ s.size) :
    (form s k).2.1 ≤ s.size ∧ ((form s k).2.2 = 0 → ((form s k).1 = [] ∧ k ≤ 2) ∨ (∃ p, (form s k).1 = [p] ∧ Pf s (k != 5) p) ∨ (∃ p q, (form s k).1 = [p, q] ∧ k ≠ 5 ∧ Pf s (k != 5) p ∧ Pf s true q)) := by
  unfold form
  by_cases c0 : s.size = 1 ∧ k ≤ 2
  · rw [if_pos c0]
    exact ⟨h1, fun _ => .inl ⟨rfl, c0.2⟩⟩
  rw [if_neg c0]
  obtain ⟨a1, a2, a3, a4⟩ := takes_facts s 1 (k != 5) h1
  simp only
  by_cases c1 : (takes s 1 (k != 5)).2.2 ≠ 0
  · rw [if_pos c1]
    exact ⟨a1, fun h => absurd h c1⟩
  rw [if_neg c1]
  have P := a4 (by omega)
  by_cases c2 : (k != 5 && nxt s (takes s 1 (k != 5)).2.1 [44]) = true
  · rw [if_pos c2]
    simp only [Bool.and_eq_true] at c2
    have lt := (nxt_at c2.2).1
    obtain ⟨b1, b2, b3, b4⟩ := takes_facts s ((takes s 1 (k != 5)).2.1 + 1) true (by omega)
    by_cases c3 : (takes s ((takes s 1 (k != 5)).2.1 + 1) true).2.2 ≠ 0
    · rw [if_pos c3]
      exact ⟨b1, fun h => absurd h c3⟩
    rw [if_neg c3]
    have Q := b4 (by omega)
    by_cases c4 : (takes s ((takes s 1 (k != 5)).2.1 + 1) true).2.1 < s.size
    · rw [if_pos c4]
      exact ⟨b1, fun h => absurd h (by simp)⟩
    · rw [if_neg c4]
      exact ⟨b1, fun _ => .inr (.inr ⟨_, _, rfl, by simpa using c2.1, P, Q⟩)⟩
  · rw [if_neg c2]
    by_cases c4 : (takes s 1 (k != 5)).2.1 < s.size
    · rw [if_pos c4]
      exact ⟨a1, fun h => absurd h (by simp)⟩
    · rw [if_neg c4]
      exact ⟨a1, fun _ => .inr (.inl ⟨_, rfl, P⟩)⟩
theorem wrong_false {s : ByteArray} {k w h : Int} {p : Pt} {n : Int} (hw : wrong s k w h p n = false) :
    n + 1 ≤ 1 ∧ val s p.fr p.to_ < val s p.at_ p.en ∧ ((k = 2 ∧ val s p.fr p.to_ ≠ 0 ∧ w ≠ 0 ∧ h ≠ 0) ∨ (k = 3 ∧ ¬ p.star < 0)) := by
  unfold wrong at hw
  simp only [Bool.or_eq_false_iff, decide_eq_false_iff_not] at hw
  obtain ⟨⟨h1, h2⟩, h3⟩ := hw
  refine ⟨by omega, by omega, ?_⟩
  by_cases c : k = 2
  · rw [if_pos c] at h3
    simp only [Bool.or_eq_false_iff, decide_eq_false_iff_not] at h3
    exact .inl ⟨c, h3.1, h3.2.1, h3.2.2⟩
  · rw [if_neg c] at h3
    by_cases c3 : k = 3
    · rw [if_pos c3] at h3
      exact .inr ⟨c3, by simpa using h3⟩
    · rw [if_neg c3] at h3
      exact absurd h3 (by simp)
theorem sense_zero {s : ByteArray} {k w h : Int} {ps : List Pt} (e : (sense s k w h ps).2 = 0) :
    badSide s ps = none ∧ badEnd s k ps = none ∧ badStar k ps 0 = none ∧ ¬ (k = 3 ∧ stars ps = 0) ∧ badSign s k w h ps 0 = none := by
  unfold sense at e
  cases h1 : badSide s ps with
  | some a => rw [h1] at e; exact absurd e (by simp)
  | none =>
    rw [h1] at e
    cases h2 : badEnd s k ps with
    | some a => rw [h2] at e; exact absurd e (by simp)
    | none =>
      rw [h2] at e
      cases h3 : badStar k ps 0 with
      | some a => rw [h3] at e; exact absurd e (by simp)
      | none =>
        rw [h3] at e
        simp only at e
        by_cases h4 : k = 3 ∧ stars ps = 0
        · rw [if_pos h4] at e; exact absurd e (by simp)
        · rw [if_neg h4] at e
          cases h5 : badSign s k w h ps 0 with
          | some a => rw [h5] at e; exact absurd e (by simp)
          | none => exact ⟨rfl, rfl, rfl, h4, rfl⟩
/-- Of one side. -/
theorem ok_one {s : ByteArray} {k w : Int} {p : Pt} (k1 : 1 ≤ k) (k5 : k ≤ 5) (hv : val s p.at_ p.en = w) (P : Pf s (k != 5) p) (e : (sense s k w w [p]).2 = 0) :
    OkT k w w (turns s [p] 0 (0, 0)).1 (turns s [p] 0 (0, 0)).2 := by
  obtain ⟨e1, e2, e3, e4, e5⟩ := sense_zero e
  have n0 := val_pos s p.fr p.to_
  have w0 := val_pos s p.at_ p.en
  rw [hv] at w0
  simp only [badSide, hv] at e1
  have e1 : w ≤ 65536 := by
    by_cases c : w > 65536
    · rw [if_pos c] at e1; exact absurd e1 (by simp)
    · omega
  simp only [badEnd, hv] at e2
  have e2 : 3 ≤ k → w ≠ 0 := by
    intro c z
    rw [if_pos ⟨c, z⟩] at e2; exact absurd e2 (by simp)
  simp only [badStar, stars] at e3 e4
  simp only [badSign] at e5
  have t5 : k = 5 → p.star < 0 ∧ p.sign < 0 := by
    intro c
    have ht : (k != 5) = false := by rw [c]; rfl
    refine ⟨?_, ?_⟩
    · rcases P.star with h | ⟨n, _, _, h⟩
      · exact h
      · rw [ht] at h; exact absurd h (by simp)
    · rcases P.sign with h | ⟨n, _, _, h, _⟩
      · exact h
      · rw [ht] at h; exact absurd h (by simp)
  have sg : ¬ p.sign < 0 → wrong s k w w p 0 = false := by
    intro c
    cases hw : wrong s k w w p 0 with
    | false => rfl
    | true => rw [if_neg c, hw, if_pos rfl] at e5; exact absurd e5 (by simp)
  have st : ¬ p.star < 0 → k = 3 := by
    intro c
    by_cases c3 : k = 3
    · exact c3
    · rw [if_neg c, if_pos (.inl c3)] at e3; exact absurd e3 (by simp)
  have st3 : k = 3 → ¬ p.star < 0 := by
    intro c z
    rw [if_pos z] at e4
    exact e4 ⟨c, rfl⟩
  simp only [turns]
  refine ⟨k1, k5, w0, e1, w0, e1, fun _ => rfl, fun c => ⟨e2 c, e2 c⟩, ?_⟩
  by_cases c1 : p.star < 0 ∧ p.sign < 0
  · rw [if_pos c1]
    exact .inl ⟨rfl, rfl, fun c => st3 c c1.1⟩
  · rw [if_neg c1]
    right
    by_cases c2 : p.sign < 0
    · have k3 := st (fun z => c1 ⟨z, c2⟩)
      have := e2 (by omega)
      rw [if_neg (by omega)]
      exact ⟨.inr k3, .inl ⟨by simp, by simp; omega, by simp; omega⟩⟩
    · obtain ⟨_, f2, f3⟩ := wrong_false (sg c2)
      rw [hv] at f2
      rw [if_pos (by omega)]
      refine ⟨?_, .inl ⟨by simp, ?_, ?_⟩⟩
      · rcases f3 with ⟨g1, g2, g3, g4⟩ | ⟨g1, g2⟩
        · refine .inl ⟨g1, ?_, g3, g4⟩
          split <;> simp only [] <;> omega
        · exact .inr g1
      · split <;> simp only [] <;> omega
      · split <;> simp only [] <;> omega
/-- Of two sides. -/
theorem ok_two {s : ByteArray} {k w h : Int} {p q : Pt} (k1 : 1 ≤ k) (k5 : k ≤ 5) (kn : k ≠ 5) (hv : val s p.at_ p.en = w) (hv2 : val s q.at_ q.en = h) (e : (sense s k w h [p, q]).2 = 0) :
    OkT k w h (turns s [p, q] 0 (0, 0)).1 (turns s [p, q] 0 (0, 0)).2 := by
  obtain ⟨e1, e2, e3, e4, e5⟩ := sense_zero e
  have n0 := val_pos s p.fr p.to_
  have m0 := val_pos s q.fr q.to_
  have w0 := val_pos s p.at_ p.en
  have h0 := val_pos s q.at_ q.en
  rw [hv] at w0
  rw [hv2] at h0
  simp only [badSide, hv, hv2] at e1
  have e1 : w ≤ 65536 ∧ h ≤ 65536 := by
    by_cases c : w > 65536
    · rw [if_pos c] at e1; exact absurd e1 (by simp)
    · rw [if_neg c] at e1
      by_cases d : h > 65536
      · rw [if_pos d] at e1; exact absurd e1 (by simp)
      · omega
  simp only [badEnd, hv, hv2] at e2
  have e2 : 3 ≤ k → w ≠ 0 ∧ h ≠ 0 := by
    intro c
    by_cases z : w = 0
    · rw [if_pos ⟨c, z⟩] at e2; exact absurd e2 (by simp)
    · rw [if_neg (fun q => z q.2)] at e2
      by_cases y : h = 0
      · rw [if_pos ⟨c, y⟩] at e2; exact absurd e2 (by simp)
      · exact ⟨z, y⟩
  simp only [badStar, stars] at e3 e4
  simp only [badSign] at e5
  have st : (p.star < 0 ∧ q.star < 0 ∧ k ≠ 3) ∨ (k = 3 ∧ ¬ p.star < 0 ∧ q.star < 0) ∨ (k = 3 ∧ p.star < 0 ∧ ¬ q.star < 0) := by
    by_cases c1 : p.star < 0
    · rw [if_pos c1] at e3 e4
      by_cases c2 : q.star < 0
      · rw [if_pos c2] at e4
        exact .inl ⟨c1, c2, fun z => e4 ⟨z, rfl⟩⟩
      · rw [if_neg c2] at e3
        by_cases c3 : k = 3
        · exact .inr (.inr ⟨c3, c1, c2⟩)
        · rw [if_pos (.inl c3)] at e3; exact absurd e3 (by simp)
    · rw [if_neg c1] at e3
      by_cases c3 : k = 3
      · rw [if_neg (by omega)] at e3
        by_cases c2 : q.star < 0
        · exact .inr (.inl ⟨c3, c1, c2⟩)
        · rw [if_neg c2, if_pos (.inr (by omega))] at e3; exact absurd e3 (by simp)
      · rw [if_pos (.inl c3)] at e3; exact absurd e3 (by simp)
  have sg : (p.sign < 0 ∧ q.sign < 0) ∨ (¬ p.sign < 0 ∧ q.sign < 0 ∧ wrong s k w h p 0 = false) ∨ (p.sign < 0 ∧ ¬ q.sign < 0 ∧ wrong s k w h q 0 = false) := by
    by_cases c1 : p.sign < 0
    · rw [if_pos c1] at e5
      by_cases c2 : q.sign < 0
      · exact .inl ⟨c1, c2⟩
      · rw [if_neg c2] at e5
        cases hw : wrong s k w h q 0 with
        | false => exact .inr (.inr ⟨c1, c2, rfl⟩)
        | true => rw [hw, if_pos rfl] at e5; exact absurd e5 (by simp)
    · rw [if_neg c1] at e5
      cases hw : wrong s k w h p 0 with
      | true => rw [hw, if_pos rfl] at e5; exact absurd e5 (by simp)
      | false =>
        rw [hw, if_neg (by simp)] at e5
        by_cases c2 : q.sign < 0
        · exact .inr (.inl ⟨c1, c2, rfl⟩)
        · rw [if_neg c2] at e5
          cases hw2 : wrong s k w h q (0 + 1) with
          | true => rw [hw2, if_pos rfl] at e5; exact absurd e5 (by simp)
          | false => exact absurd (wrong_false hw2).1 (by omega)
  simp only [turns]
  refine ⟨k1, k5, w0, e1.1, h0, e1.2, fun c => absurd c kn, e2, ?_⟩
  clear e1 e3 e4 e5 e
  rcases st with ⟨c1, c2, c3⟩ | ⟨c3, c1, c2⟩ | ⟨c3, c1, c2⟩
  · rcases sg with ⟨d1, d2⟩ | ⟨d1, d2, d3⟩ | ⟨d1, d2, d3⟩
    · rw [if_pos ⟨c2, d2⟩, if_pos ⟨c1, d1⟩]
      exact .inl ⟨rfl, rfl, c3⟩
    · obtain ⟨_, f2, f3⟩ := wrong_false d3
      rw [hv] at f2
      have f4 : k = 2 ∧ val s p.fr p.to_ ≠ 0 ∧ w ≠ 0 ∧ h ≠ 0 := by rcases f3 with f | f; exact f; exact absurd f.1 c3
      rw [if_pos ⟨c2, d2⟩, if_neg (fun z => d1 z.2), if_pos (by omega)]
      right
      refine ⟨.inl ⟨f4.1, ?_, f4.2.2.1, f4.2.2.2⟩, .inl ⟨by simp, ?_, ?_⟩⟩ <;> (split <;> simp only [] <;> omega)
    · obtain ⟨_, f2, f3⟩ := wrong_false d3
      rw [hv2] at f2
      have f4 : k = 2 ∧ val s q.fr q.to_ ≠ 0 ∧ w ≠ 0 ∧ h ≠ 0 := by rcases f3 with f | f; exact f; exact absurd f.1 c3
      rw [if_neg (fun z => d2 z.2), if_pos (show (0 : Int) ≤ q.sign by omega)]
      right
      refine ⟨.inl ⟨f4.1, ?_, f4.2.2.1, f4.2.2.2⟩, .inr ⟨by simp, ?_, ?_⟩⟩ <;> (split <;> simp only [] <;> omega)
  · have wn := e2 (by omega)
    rcases sg with ⟨d1, d2⟩ | ⟨d1, d2, d3⟩ | ⟨d1, d2, d3⟩
    · rw [if_pos ⟨c2, d2⟩, if_neg (fun z => c1 z.1), if_neg (by omega)]
      exact .inr ⟨.inr c3, .inl ⟨by simp, by simp; omega, by simp; omega⟩⟩
    · obtain ⟨_, f2, f3⟩ := wrong_false d3
      rw [hv] at f2
      rw [if_pos ⟨c2, d2⟩, if_neg (fun z => d1 z.2), if_pos (by omega)]
      refine .inr ⟨.inr c3, .inl ⟨by simp, ?_, ?_⟩⟩ <;> (split <;> simp only [] <;> omega)
    · obtain ⟨_, f2, f3⟩ := wrong_false d3
      exact absurd f3 (by rintro (f | f); · omega
                          · exact f.2 c2)
  · have wn := e2 (by omega)
    rcases sg with ⟨d1, d2⟩ | ⟨d1, d2, d3⟩ | ⟨d1, d2, d3⟩
    · rw [if_neg (fun z => c2 z.1), if_neg (show ¬ (0 : Int) ≤ q.sign by omega), if_pos ⟨c1, d1⟩]
      exact .inr ⟨.inr c3, .inr ⟨by simp, by simp; omega, by simp; omega⟩⟩
    · obtain ⟨_, f2, f3⟩ := wrong_false d3
      exact absurd f3 (by rintro (f | f); · omega
                          · exact f.2 c1)
    · obtain ⟨_, f2, f3⟩ := wrong_false d3
      rw [hv2] at f2
      rw [if_neg (fun z => d2 z.2), if_pos (show (0 : Int) ≤ q.sign by omega)]
      refine .inr ⟨.inr c3, .inr ⟨by simp, ?_, ?_⟩⟩ <;> (split <;> simp only [] <;> omega)
/-- A fault of sense has its place in the text. -/
theorem Pf.in {s : ByteArray} {t : Bool} {p : Pt} (P : Pf s t p) : (0 : Int) ≤ p.at_ ∧ (p.at_ : Int) ≤ s.size ∧ p.star ≤ s.size ∧ p.sign ≤ s.size := by
  have := isd_lt P.da
  refine ⟨by omega, by omega, ?_, ?_⟩
  · rcases P.star with h | ⟨n, h, hn, _⟩ <;> omega
  · rcases P.sign with h | ⟨n, h, hn, _⟩ <;> omega
theorem side_in {s : ByteArray} {ps : List Pt} (h : ∀ p ∈ ps, ∃ t, Pf s t p) {a : Int} (e : badSide s ps = some a) : 0 ≤ a ∧ a ≤ s.size := by
  induction ps with
  | nil => simp [badSide] at e
  | cons p ps ih =>
    simp only [badSide] at e
    obtain ⟨t, P⟩ := h p (by simp)
    have := P.in
    split at e
    · injection e with e; omega
    · exact ih (fun q hq => h q (by simp [hq])) e
theorem end_in {s : ByteArray} {k : Int} {ps : List Pt} (h : ∀ p ∈ ps, ∃ t, Pf s t p) {a : Int} (e : badEnd s k ps = some a) : 0 ≤ a ∧ a ≤ s.size := by
  induction ps with
  | nil => simp [badEnd] at e
  | cons p ps ih =>
    simp only [badEnd] at e
    obtain ⟨t, P⟩ := h p (by simp)
    have := P.in
    split at e
    · injection e with e; omega
    · exact ih (fun q hq => h q (by simp [hq])) e
theorem star_in {s : ByteArray} {k : Int} {ps : List Pt} (h : ∀ p ∈ ps, ∃ t, Pf s t p) {a : Int} : ∀ n, badStar k ps n = some a → 0 ≤ a ∧ a ≤ s.size := by
  induction ps with
  | nil => intro n e; simp [badStar] at e
  | cons p ps ih =>
    intro n e
    simp only [badStar] at e
    obtain ⟨t, P⟩ := h p (by simp)
    have := P.in
    split at e
    · exact ih (fun q hq => h q (by simp [hq])) _ e
    · split at e
      · injection e with e; omega
      · exact ih (fun q hq => h q (by simp [hq])) _ e
theorem sign_in {s : ByteArray} {k w h : Int} {ps : List Pt} (hp : ∀ p ∈ ps, ∃ t, Pf s t p) {a : Int} : ∀ n, badSign s k w h ps n = some a → 0 ≤ a ∧ a ≤ s.size := by
  induction ps with
  | nil => intro n e; simp [badSign] at e
  | cons p ps ih =>
    intro n e
    simp only [badSign] at e
    obtain ⟨t, P⟩ := hp p (by simp)
    have := P.in
    split at e
    · exact ih (fun q hq => hp q (by simp [hq])) _ e
    · split at e
      · injection e with e; omega
      · exact ih (fun q hq => hp q (by simp [hq])) _ e
theorem sense_in {s : ByteArray} {k w h : Int} {ps : List Pt} (hp : ∀ p ∈ ps, ∃ t, Pf s t p) : 0 ≤ (sense s k w h ps).1 ∧ (sense s k w h ps).1 ≤ s.size := by
  unfold sense
  cases h1 : badSide s ps with
  | some a => exact side_in hp h1
  | none =>
    cases h2 : badEnd s k ps with
    | some a => exact end_in hp h2
    | none =>
      cases h3 : badStar k ps 0 with
      | some a => exact star_in hp 0 h3
      | none =>
        simp only
        by_cases h4 : k = 3 ∧ stars ps = 0
        · rw [if_pos h4]; exact ⟨by simp, by simp⟩
        · rw [if_neg h4]
          cases h5 : badSign s k w h ps 0 with
          | some a => exact sign_in hp 0 h5
          | none => exact ⟨by simp, by simp⟩
theorem kind_in (s : ByteArray) : 0 ≤ kindOf s ∧ kindOf s ≤ 5 := by
  unfold kindOf kindB
  split
  · omega
  · repeat (first | omega | split)
/-- What Parse answers: a topology that may be, or none, with a place in the text. -/
theorem parse_one (s : ByteArray) : ∃ k w h u x a e, parse s = (k, w, h, u, x, a, e) ∧ ((e = 0 ∧ a = 0 ∧ OkT k w h u x) ∨ (e ≠ 0 ∧ k = 0 ∧ w = 0 ∧ h = 0 ∧ u = 0 ∧ x = 0 ∧ 0 ≤ a ∧ a ≤ s.size)) := by
  unfold parse
  by_cases c1 : 1048576 < s.size
  · rw [if_pos c1]
    exact ⟨_, _, _, _, _, _, _, rfl, .inr ⟨by omega, rfl, rfl, rfl, rfl, rfl, by omega, by omega⟩⟩
  rw [if_neg c1]
  by_cases c2 : kindOf s = 0
  · rw [if_pos c2]
    exact ⟨_, _, _, _, _, _, _, rfl, .inr ⟨by omega, rfl, rfl, rfl, rfl, rfl, by omega, by omega⟩⟩
  rw [if_neg c2]
  have hk := kind_in s
  have h1 : 1 ≤ s.size := by
    by_cases z : s.size = 0
    · exact absurd (show kindOf s = 0 by unfold kindOf; rw [if_pos z]) c2
    · omega
  obtain ⟨f1, f2⟩ := form_facts s (kindOf s) h1
  simp only
  by_cases c3 : (form s (kindOf s)).2.2 ≠ 0
  · rw [if_pos c3]
    exact ⟨_, _, _, _, _, _, _, rfl, .inr ⟨c3, rfl, rfl, rfl, rfl, rfl, by omega, by omega⟩⟩
  rw [if_neg c3]
  rcases f2 (by omega) with ⟨e, hk2⟩ | ⟨p, e, P⟩ | ⟨p, q, e, kn, P, Q⟩
  · rw [e]
    exact ⟨_, _, _, _, _, _, _, rfl, .inl ⟨rfl, rfl, by omega, by omega, by omega, by omega, by omega, by omega, fun _ => rfl, fun c => by omega, .inl ⟨rfl, rfl, by omega⟩⟩⟩
  · rw [e]
    simp only
    by_cases c4 : (sense s (kindOf s) (val s p.at_ p.en) (val s p.at_ p.en) [p]).2 ≠ 0
    · rw [if_pos c4]
      obtain ⟨g1, g2⟩ := sense_in (s := s) (k := kindOf s) (w := val s p.at_ p.en) (h := val s p.at_ p.en) (ps := [p]) (by intro y hy; obtain rfl := List.mem_singleton.1 hy; exact ⟨_, P⟩)
      exact ⟨_, _, _, _, _, _, _, rfl, .inr ⟨c4, rfl, rfl, rfl, rfl, rfl, g1, g2⟩⟩
    · rw [if_neg c4]
      exact ⟨_, _, _, _, _, _, _, rfl, .inl ⟨rfl, rfl, ok_one (by omega) hk.2 rfl P (by omega)⟩⟩
  · rw [e]
    simp only
    by_cases c4 : (sense s (kindOf s) (val s p.at_ p.en) (val s q.at_ q.en) [p, q]).2 ≠ 0
    · rw [if_pos c4]
      obtain ⟨g1, g2⟩ := sense_in (s := s) (k := kindOf s) (w := val s p.at_ p.en) (h := val s q.at_ q.en) (ps := [p, q]) (by
        intro y hy
        rcases List.mem_cons.1 hy with rfl | hy
        · exact ⟨_, P⟩
        · obtain rfl := List.mem_singleton.1 hy; exact ⟨_, Q⟩)
      exact ⟨_, _, _, _, _, _, _, rfl, .inr ⟨c4, rfl, rfl, rfl, rfl, rfl, g1, g2⟩⟩
    · rw [if_neg c4]
      exact ⟨_, _, _, _, _, _, _, rfl, .inl ⟨rfl, rfl, ok_two (by omega) hk.2 kn rfl rfl (by omega)⟩⟩
end Go.Proofs.YtmcidodpnhkdfaaDoor.BackPlain
