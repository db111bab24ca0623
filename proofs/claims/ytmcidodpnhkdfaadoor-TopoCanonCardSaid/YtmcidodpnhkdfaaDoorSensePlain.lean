/- reader.sense, plain. -/
import Derived.Test.YtmcidodpnhkdfaaDoorParseMain
namespace Go.Proofs.YtmcidodpnhkdfaaDoor.SensePlain
open Go.RowKit Go.Proofs.YtmcidodpnhkdfaaDoorW.PrintWords Go.Proofs.YtmcidodpnhkdfaaDoor.ParseSpec Go.Proofs.YtmcidodpnhkdfaaDoor.PQ Go.Proofs.YtmcidodpnhkdfaaDoor.PartWalk Go.Proofs.YtmcidodpnhkdfaaDoor.ParseMain
set_option linter.unusedVariables false
section
variable (s : ByteArray) (at_ kd W H : Int) (qs : List Pt)
theorem rdS (i : Nat) (p : Pt) (h : qs[i]? = some p) : rd_T72 (qs.map toS) (i : Int) = (⟨⟨p.at_, p.en⟩, p.star, p.sign, ⟨p.fr, p.to_⟩⟩ : S72) := by
  unfold rd_T72
  simp [List.getD_eq_getElem?_getD, h, toS]
theorem valueF (x : Int) (l : List S72) (a b : Nat) (h1 : a ≤ b) (h2 : b ≤ s.size) (hs : s.size ≤ 1048576) : topo_reader_value.f s x l (a : Int) (b : Int) = some (val s a b, s, x) := by
  unfold topo_reader_value.f
  rw [if_pos ⟨by omega, by omega, by omega, hs⟩]
  rfl
theorem wrap_i (i : Nat) (h : i ≤ 2) : wrap64 ((i : Int) + 1) = ((i + 1 : Nat) : Int) := by unfold wrap64; omega
theorem cons_at (i : Nat) (h : i < qs.length) : ∃ p, qs[i]? = some p ∧ p ∈ qs ∧ qs.drop i = p :: qs.drop (i + 1) :=
  ⟨qs[i], List.getElem?_eq_getElem h, List.getElem_mem h, List.drop_eq_getElem_cons h⟩
theorem l0 (hs : s.size ≤ 1048576) (hg : ∀ p ∈ qs, Go.Proofs.YtmcidodpnhkdfaaDoor.ParseMain.Good s p) (hl : qs.length ≤ 2) : ∀ (d k i : Nat), i + d = qs.length → d + 1 ≤ k →
    topo_reader_sense.l0 k (qs.map toS) (qs.length : Int) (i : Int) s at_ (qs.map toS) kd W H 0 0 = match badSide s (qs.drop i) with
      | some a => some (a, 41, s, at_)
      | none => topo_reader_sense.l1 (k - (d + 1)) 0 (qs.map toS) (qs.length : Int) 0 s at_ (qs.map toS) kd W H 0 0 := by
  intro d
  induction d with
  | zero =>
    intro k i h1 h2
    obtain ⟨k, rfl⟩ : ∃ m, k = m + 1 := ⟨k - 1, by omega⟩
    rw [List.drop_eq_nil_of_le (by omega)]
    simp only [topo_reader_sense.l0, badSide]
    rw [if_neg (show ¬ (i : Int) < (qs.length : Int) by omega)]
    simp only [List.length_map]
    rfl
  | succ d ih =>
    intro k i h1 h2
    obtain ⟨k, rfl⟩ : ∃ m, k = m + 1 := ⟨k - 1, by omega⟩
    obtain ⟨p, hp, hm, hd⟩ := cons_at qs i (by omega)
    have g := hg p hm
    rw [hd]
    simp only [topo_reader_sense.l0, badSide]
    rw [if_pos (show (i : Int) < (qs.length : Int) by omega), if_pos (show (0 : Int) ≤ (i : Int) by omega), if_pos (show (i : Int) < ((qs.map toS).length : Int) by rw [List.length_map]; omega), rdS qs i p hp]
    dsimp only
    rw [valueF s at_ _ _ _ g.o1 g.o2 hs]
    simp only [Option.bind_some]
    by_cases c : val s p.at_ p.en > 65536
    · rw [if_pos c, if_pos c]
    · rw [if_neg c, if_neg c, wrap_i i (by omega)]
      have := ih k (i + 1) (by omega) (by omega)
      rw [this, show k + 1 - (d + 1 + 1) = k - (d + 1) by omega]
theorem l1 (hs : s.size ≤ 1048576) (hg : ∀ p ∈ qs, Go.Proofs.YtmcidodpnhkdfaaDoor.ParseMain.Good s p) (hl : qs.length ≤ 2) : ∀ (d k i : Nat), i + d = qs.length → d + 1 ≤ k →
    topo_reader_sense.l1 k 0 (qs.map toS) (qs.length : Int) (i : Int) s at_ (qs.map toS) kd W H 0 0 = match badEnd s kd (qs.drop i) with
      | some a => some (a, 42, s, at_)
      | none => topo_reader_sense.l2 (k - (d + 1)) 0 (qs.map toS) (qs.length : Int) 0 s at_ (qs.map toS) kd W H 0 0 := by
  intro d
  induction d with
  | zero =>
    intro k i h1 h2
    obtain ⟨k, rfl⟩ : ∃ m, k = m + 1 := ⟨k - 1, by omega⟩
    rw [List.drop_eq_nil_of_le (by omega)]
    simp only [topo_reader_sense.l1, badEnd]
    rw [if_neg (show ¬ (i : Int) < (qs.length : Int) by omega)]
    simp only [List.length_map]
    rfl
  | succ d ih =>
    intro k i h1 h2
    obtain ⟨k, rfl⟩ : ∃ m, k = m + 1 := ⟨k - 1, by omega⟩
    obtain ⟨p, hp, hm, hd⟩ := cons_at qs i (by omega)
    have g := hg p hm
    have hn := ih k (i + 1) (by omega) (by omega)
    rw [hd]
    simp only [topo_reader_sense.l1, badEnd]
    rw [if_pos (show (i : Int) < (qs.length : Int) by omega), if_pos (show (0 : Int) ≤ (i : Int) by omega), if_pos (show (i : Int) < ((qs.map toS).length : Int) by rw [List.length_map]; omega), rdS qs i p hp]
    dsimp only
    rw [valueF s at_ _ _ _ g.o1 g.o2 hs, wrap_i i (by omega), show k + 1 - (d + 1 + 1) = k - (d + 1) by omega]
    simp only [Option.bind_some]
    by_cases c : kd ≥ 3
    · rw [if_pos c]
      by_cases c2 : val s p.at_ p.en = 0
      · rw [if_pos c2, if_pos ⟨c, c2⟩]
      · rw [if_neg c2, if_neg (fun h => c2 h.2)]
        exact hn
    · rw [if_neg c, if_neg (fun h => c h.1)]
      exact hn
theorem l2 (hl : qs.length ≤ 2) : ∀ (d k i n : Nat), i + d = qs.length → d + 1 ≤ k → n ≤ i →
    topo_reader_sense.l2 k (n : Int) (qs.map toS) (qs.length : Int) (i : Int) s at_ (qs.map toS) kd W H 0 0 = match badStar kd (qs.drop i) (n : Int) with
      | some a => some (a, 44, s, at_)
      | none => if kd = 3 then topo_reader_sense.j3 (k - (d + 1)) (((n : Int) + stars (qs.drop i)) == 0) s at_ (qs.map toS) kd W H 0 0 else topo_reader_sense.j3 (k - (d + 1)) false s at_ (qs.map toS) kd W H 0 0 := by
  intro d
  induction d with
  | zero =>
    intro k i n h1 h2 h3
    obtain ⟨k, rfl⟩ : ∃ m, k = m + 1 := ⟨k - 1, by omega⟩
    rw [List.drop_eq_nil_of_le (by omega)]
    simp only [topo_reader_sense.l2, badStar, stars, Int.add_zero]
    rw [if_neg (show ¬ (i : Int) < (qs.length : Int) by omega)]
    rfl
  | succ d ih =>
    intro k i n h1 h2 h3
    obtain ⟨k, rfl⟩ : ∃ m, k = m + 1 := ⟨k - 1, by omega⟩
    obtain ⟨p, hp, hm, hd⟩ := cons_at qs i (by omega)
    rw [hd]
    simp only [topo_reader_sense.l2, badStar, stars]
    rw [if_pos (show (i : Int) < (qs.length : Int) by omega), if_pos (show (0 : Int) ≤ (i : Int) by omega), if_pos (show (i : Int) < ((qs.map toS).length : Int) by rw [List.length_map]; omega), rdS qs i p hp]
    dsimp only
    rw [wrap_i i (by omega), wrap_i n (by omega), show k + 1 - (d + 1 + 1) = k - (d + 1) by omega]
    by_cases c : p.star < 0
    · rw [if_pos c, if_pos c, if_pos c, Int.zero_add]
      exact ih k (i + 1) n (by omega) (by omega) (by omega)
    · rw [if_neg c, if_neg c, if_neg c]
      by_cases c2 : kd = 3
      · rw [if_pos c2]
        by_cases c3 : ((n + 1 : Nat) : Int) > 1
        · rw [if_pos c3, if_pos (.inr (by omega))]
        · rw [if_neg c3, if_neg (show ¬ (kd ≠ 3 ∨ (n : Int) + 1 > 1) by omega)]
          have := ih k (i + 1) (n + 1) (by omega) (by omega) (by omega)
          rw [this, show ((n + 1 : Nat) : Int) = (n : Int) + 1 by omega, Int.add_assoc]
      · rw [if_neg c2, if_pos (.inl c2)]
theorem l3 (hs : s.size ≤ 1048576) (hg : ∀ p ∈ qs, Go.Proofs.YtmcidodpnhkdfaaDoor.ParseMain.Good s p) (hl : qs.length ≤ 2) : ∀ (d k i n : Nat), i + d = qs.length → 2 * d + 1 ≤ k → n ≤ i →
    topo_reader_sense.l3 k (n : Int) (qs.map toS) (qs.length : Int) (i : Int) s at_ (qs.map toS) kd W H 0 0 = match badSign s kd W H (qs.drop i) (n : Int) with
      | some a => some (a, 43, s, at_)
      | none => some (0, 0, s, at_) := by
  intro d
  induction d with
  | zero =>
    intro k i n h1 h2 h3
    obtain ⟨k, rfl⟩ : ∃ m, k = m + 1 := ⟨k - 1, by omega⟩
    rw [List.drop_eq_nil_of_le (by omega)]
    simp only [topo_reader_sense.l3, badSign]
    rw [if_neg (show ¬ (i : Int) < (qs.length : Int) by omega)]
  | succ d ih =>
    intro k i n h1 h2 h3
    obtain ⟨k, rfl⟩ : ∃ m, k = m + 1 + 1 := ⟨k - 2, by omega⟩
    obtain ⟨p, hp, hm, hd⟩ := cons_at qs i (by omega)
    have g := hg p hm
    rw [hd]
    rw [topo_reader_sense.l3]
    simp only [badSign]
    rw [if_pos (show (i : Int) < (qs.length : Int) by omega), if_pos (show (0 : Int) ≤ (i : Int) by omega), if_pos (show (i : Int) < ((qs.map toS).length : Int) by rw [List.length_map]; omega), rdS qs i p hp]
    dsimp only
    rw [wrap_i i (by omega), wrap_i n (by omega)]
    by_cases c : p.sign < 0
    · rw [if_pos c, if_pos c]
      exact ih (k + 1) (i + 1) n (by omega) (by omega) (by omega)
    · rw [if_neg c, if_neg c, valueF s at_ _ _ _ g.o3 g.o4 hs]
      simp only [Option.bind_some]
      rw [valueF s at_ _ _ _ g.o1 g.o2 hs]
      simp only [Option.bind_some]
      have hn := ih k (i + 1) (n + 1) (by omega) (by omega) (by omega)
      rw [← wrap_i i (by omega)] at hn
      have key : ∀ b : Bool, b = (decide ((n : Int) + 1 > 1) || decide (val s p.at_ p.en ≤ val s p.fr p.to_)) →
          topo_reader_sense.j5 (k + 1) ((n + 1 : Nat) : Int) (val s p.fr p.to_) b (qs.map toS) (qs.length : Int) (i : Int) s at_ (qs.map toS) kd W H 0 0 (p.at_ : Int) (p.en : Int) p.star p.sign (p.fr : Int) (p.to_ : Int) =
          match (if wrong s kd W H p (n : Int) = true then some p.sign else badSign s kd W H (qs.drop (i + 1)) ((n : Int) + 1)) with
            | some a => some (a, 43, s, at_)
            | none => some (0, 0, s, at_) := by
        intro b hb
        simp only [topo_reader_sense.j5]
        unfold wrong
        rw [← hb]
        by_cases c2 : kd = 2
        · rw [if_pos c2, if_pos c2]
          cases b with
          | true => simp
          | false =>
            by_cases e1 : val s p.fr p.to_ = 0
            · simp [e1]
            · by_cases e2 : W = 0
              · simp [e1, e2]
              · by_cases e3 : H = 0
                · simp [e1, e2, e3]
                · simp only [Bool.false_eq_true, if_false, if_neg e1, if_neg e2, if_neg e3, decide_eq_false e1, decide_eq_false e2, decide_eq_false e3, Bool.or_self]
                  exact hn
        · rw [if_neg c2, if_neg c2]
          by_cases c3 : kd = 3
          · rw [if_pos c3, if_pos c3]
            cases b with
            | true => simp
            | false =>
              by_cases e1 : p.star < 0
              · simp [e1]
              · simp only [Bool.false_eq_true, if_false, if_neg e1, decide_eq_false e1, Bool.or_self]
                exact hn
          · rw [if_neg c3, if_neg c3]
            simp
      by_cases c2 : ((n + 1 : Nat) : Int) > 1
      · rw [if_pos c2]
        refine key true ?_
        rw [decide_eq_true (show (n : Int) + 1 > 1 by omega)]; rfl
      · rw [if_neg c2]
        refine key _ ?_
        rw [decide_eq_false (show ¬ (n : Int) + 1 > 1 by omega)]; rfl
theorem sense_f (hs : s.size ≤ 1048576) (hg : ∀ p ∈ qs, Go.Proofs.YtmcidodpnhkdfaaDoor.ParseMain.Good s p) (hl : qs.length ≤ 2) : topo_reader_sense.f 20 s at_ (qs.map toS) kd W H 0 0 = some ((sense s kd W H qs).1, (sense s kd W H qs).2, s, at_) := by
  have e0 := l0 s at_ kd W H qs hs hg hl qs.length 20 0 (by omega) (by omega)
  have e1 := l1 s at_ kd W H qs hs hg hl qs.length (20 - (qs.length + 1)) 0 (by omega) (by omega)
  have e2 := l2 s at_ kd W H qs hl qs.length (20 - (qs.length + 1) - (qs.length + 1)) 0 0 (by omega) (by omega) (by omega)
  unfold topo_reader_sense.f sense
  rw [List.length_map]
  rw [show ((0 : Nat) : Int) = 0 from rfl] at e0 e1 e2
  rw [e0, List.drop_zero]
  cases badSide s qs with
  | some a => rfl
  | none =>
    simp only
    rw [e1, List.drop_zero]
    cases badEnd s kd qs with
    | some a => rfl
    | none =>
      simp only
      rw [e2, List.drop_zero]
      cases badStar kd qs 0 with
      | some a => rfl
      | none =>
        simp only
        obtain ⟨m, hm⟩ : ∃ m, 20 - (qs.length + 1) - (qs.length + 1) - (qs.length + 1) = m + 1 := ⟨20 - (qs.length + 1) - (qs.length + 1) - (qs.length + 1) - 1, by omega⟩
        rw [hm]
        have e3 := l3 s at_ kd W H qs hs hg hl qs.length m 0 0 (by omega) (by omega) (by omega)
        rw [show ((0 : Nat) : Int) = 0 from rfl, List.drop_zero] at e3
        simp only [topo_reader_sense.j3, Int.zero_add, List.length_map]
        by_cases c : kd = 3
        · rw [if_pos c]
          by_cases c2 : stars qs = 0
          · rw [if_pos (by simpa using c2), if_pos ⟨c, c2⟩]
          · rw [if_neg (by simpa using c2), if_neg (fun h => c2 h.2), e3]
            cases badSign s kd W H qs 0 <;> rfl
        · rw [if_neg c, if_neg (by simp), if_neg (fun h => c h.1), e3]
          cases badSign s kd W H qs 0 <;> rfl
end
end Go.Proofs.YtmcidodpnhkdfaaDoor.SensePlain
