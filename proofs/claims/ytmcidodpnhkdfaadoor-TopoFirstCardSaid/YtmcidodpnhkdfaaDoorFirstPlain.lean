/- Plain laws on texts: a fault of form stays the first one, whatever stands behind the faulty byte. -/
import Derived.Test.YtmcidodpnhkdfaaDoorBackPlain
namespace Go.Proofs.YtmcidodpnhkdfaaDoor.FirstPlain
open Go.RowKit Go.Proofs.YtmcidodpnhkdfaaDoorW.PrintWords Go.Proofs.YtmcidodpnhkdfaaDoor.ParseSpec Go.Proofs.YtmcidodpnhkdfaaDoor.PrintPlain Go.Proofs.YtmcidodpnhkdfaaDoor.BackPlain
set_option linter.unusedVariables false
set_option linter.unusedSimpArgs false

/-- Two texts have one beginning, up to a place. -/
def Agree (s s' : ByteArray) (n : Nat) : Prop := ∀ j, j ≤ n → j < s.size ∧ j < s'.size ∧ bt s' (j : Int) = bt s (j : Int)
theorem Agree.le {s s' : ByteArray} {n m : Nat} (h : Agree s s' n) (hm : m ≤ n) : Agree s s' m := fun j hj => h j (Nat.le_trans hj hm)
theorem isd_agree {s s' : ByteArray} {n j : Nat} (h : Agree s s' n) (hj : j ≤ n) : isd s' j = isd s j := by
  obtain ⟨h1, h2, h3⟩ := h j hj
  unfold isd
  rw [h3, decide_eq_true h1, decide_eq_true h2]
theorem nxt_agree {s s' : ByteArray} {n j : Nat} (h : Agree s s' n) (hj : j ≤ n) (of : List Int) : nxt s' j of = nxt s j of := by
  obtain ⟨h1, h2, h3⟩ := h j hj
  unfold nxt
  rw [h3, decide_eq_true h1, decide_eq_true h2]
theorem dg_agree {s s' : ByteArray} : ∀ (d i : Nat), dg s i = i + d → Agree s s' (dg s i) → dg s' i = dg s i := by
  intro d
  induction d with
  | zero =>
    intro i h hA
    cases c : isd s i with
    | true =>
      have := dg_ge s (i + 1)
      rw [dg_yes c] at h
      omega
    | false =>
      rw [dg_no c, dg_no ((isd_agree hA (by omega)).trans c)]
  | succ d ih =>
    intro i h hA
    cases c : isd s i with
    | false => rw [dg_no c] at h; omega
    | true =>
      rw [dg_yes c] at h hA ⊢
      rw [dg_yes ((isd_agree hA (by have := dg_ge s (i + 1); omega)).trans c)]
      exact ih (i + 1) (by omega) hA
theorem dg_agree' {s s' : ByteArray} {i : Nat} (hA : Agree s s' (dg s i)) : dg s' i = dg s i := by
  have := dg_ge s i
  exact dg_agree (dg s i - i) i (by omega) hA
theorem behind_ge (s : ByteArray) (i : Nat) (t : Bool) : i ≤ behind s i t := by unfold behind; split <;> omega
theorem takes_agree {s s' : ByteArray} {i : Nat} {tail : Bool} (hA : Agree s s' (takes s i tail).2.1) : takes s' i tail = takes s i tail := by
  have d1 := dg_ge s i
  revert hA
  unfold takes
  simp only
  by_cases c : dg s i = i
  · rw [if_pos c]
    intro hA
    have e := dg_agree' (s := s) (s' := s') (i := i) (by rw [c]; exact hA)
    rw [if_pos (e.trans c)]
  rw [if_neg c]
  have b1 := behind_ge s (dg s i) tail
  have f1 := dg_ge s (behind s (dg s i) tail + 1)
  by_cases c2 : (tail && nxt s (behind s (dg s i) tail) [43, 45]) = true
  · rw [if_pos c2]
    have key : Agree s s' (dg s (behind s (dg s i) tail + 1)) → dg s' i = dg s i ∧ behind s' (dg s i) tail = behind s (dg s i) tail ∧ starAt s' (dg s i) tail = starAt s (dg s i) tail ∧ nxt s' (behind s (dg s i) tail) [43, 45] = nxt s (behind s (dg s i) tail) [43, 45] ∧ dg s' (behind s (dg s i) tail + 1) = dg s (behind s (dg s i) tail + 1) := by
      intro hA
      refine ⟨dg_agree' (hA.le (by omega)), ?_, ?_, nxt_agree hA (by omega) _, dg_agree' hA⟩
      · unfold behind; rw [nxt_agree hA (by omega)]
      · unfold starAt; rw [nxt_agree hA (by omega)]
    by_cases c3 : dg s (behind s (dg s i) tail + 1) = behind s (dg s i) tail + 1
    · rw [if_pos c3]
      intro hA
      obtain ⟨k1, k2, k3, k4, k5⟩ := key (by rw [c3]; exact hA)
      rw [k1, k2, k3, if_neg c, k4, if_pos c2, k5, if_pos c3]
    · rw [if_neg c3]
      intro hA
      obtain ⟨k1, k2, k3, k4, k5⟩ := key hA
      rw [k1, k2, k3, if_neg c, k4, if_pos c2, k5, if_neg c3]
  · rw [if_neg c2]
    intro hA
    have hA : Agree s s' (behind s (dg s i) tail) := hA
    have k1 : dg s' i = dg s i := dg_agree' (hA.le b1)
    have k2 : behind s' (dg s i) tail = behind s (dg s i) tail := by unfold behind; rw [nxt_agree hA b1]
    have k3 : starAt s' (dg s i) tail = starAt s (dg s i) tail := by unfold starAt; rw [nxt_agree hA b1]
    rw [k1, k2, k3, if_neg c, nxt_agree hA (Nat.le_refl _), if_neg c2]
theorem form_agree {s s' : ByteArray} {k : Int} (h1 : 1 ≤ s.size) (he : (form s k).2.2 ≠ 0) (hA : Agree s s' (form s k).2.1) : form s' k = form s k := by
  revert he hA
  unfold form
  by_cases c0 : s.size = 1 ∧ k ≤ 2
  · rw [if_pos c0]; intro he; exact absurd rfl he
  rw [if_neg c0]
  obtain ⟨a1, a2, a3, a4⟩ := takes_facts s 1 (k != 5) h1
  have big : ∀ n, 1 ≤ n → Agree s s' n → ¬ (s'.size = 1 ∧ k ≤ 2) := by
    intro n hn hA hc
    have := (hA n (Nat.le_refl _)).2.1
    omega
  simp only
  by_cases c1 : (takes s 1 (k != 5)).2.2 ≠ 0
  · rw [if_pos c1]
    intro _ hA
    rw [if_neg (big _ a2 hA), takes_agree hA, if_pos c1]
  rw [if_neg c1]
  by_cases c2 : (k != 5 && nxt s (takes s 1 (k != 5)).2.1 [44]) = true
  · rw [if_pos c2]
    have c2' := c2
    simp only [Bool.and_eq_true] at c2'
    have lt := (nxt_at c2'.2).1
    obtain ⟨b1, b2, b3, b4⟩ := takes_facts s ((takes s 1 (k != 5)).2.1 + 1) true (by omega)
    by_cases c3 : (takes s ((takes s 1 (k != 5)).2.1 + 1) true).2.2 ≠ 0
    · rw [if_pos c3]
      intro _ hA
      have hA : Agree s s' (takes s ((takes s 1 (k != 5)).2.1 + 1) true).2.1 := hA
      have hp := takes_agree (hA.le (by omega : (takes s 1 (k != 5)).2.1 ≤ _))
      rw [if_neg (big _ (by omega) hA), hp, if_neg c1, nxt_agree hA (by omega), if_pos c2, takes_agree hA, if_pos c3]
    · rw [if_neg c3]
      by_cases c4 : (takes s ((takes s 1 (k != 5)).2.1 + 1) true).2.1 < s.size
      · rw [if_pos c4]
        intro _ hA
        have hA : Agree s s' (takes s ((takes s 1 (k != 5)).2.1 + 1) true).2.1 := hA
        have hp := takes_agree (hA.le (by omega : (takes s 1 (k != 5)).2.1 ≤ _))
        rw [if_neg (big _ (by omega) hA), hp, if_neg c1, nxt_agree hA (by omega), if_pos c2, takes_agree hA, if_neg c3, if_pos (hA _ (Nat.le_refl _)).2.1]
      · rw [if_neg c4]; intro he; exact absurd rfl he
  · rw [if_neg c2]
    by_cases c4 : (takes s 1 (k != 5)).2.1 < s.size
    · rw [if_pos c4]
      intro _ hA
      have hA : Agree s s' (takes s 1 (k != 5)).2.1 := hA
      rw [if_neg (big _ a2 hA), takes_agree hA, if_neg c1, nxt_agree hA (Nat.le_refl _), if_neg c2, if_pos (hA _ (Nat.le_refl _)).2.1]
    · rw [if_neg c4]; intro he; exact absurd rfl he
/-- The text up to a place, and something more. -/
def cut (s more : ByteArray) (n : Nat) : ByteArray := s.extract 0 (n + 1) ++ more
theorem cut_size (s more : ByteArray) (n : Nat) (hn : n < s.size) : (cut s more n).size = n + 1 + more.size := by
  unfold cut
  rw [ByteArray.size_append, ByteArray.size_extract]
  omega
theorem cut_agree (s more : ByteArray) (n : Nat) (hn : n < s.size) : Agree s (cut s more n) n := by
  intro j hj
  have hs := cut_size s more n hn
  refine ⟨by omega, by omega, ?_⟩
  have h1 : j < (s.extract 0 (n + 1)).size := by rw [ByteArray.size_extract]; omega
  unfold bt
  simp only [Int.toNat_natCast]
  rw [dif_pos (show j < (cut s more n).size by omega), dif_pos (show j < s.size by omega)]
  unfold cut
  rw [ByteArray.getElem_append_left h1, ByteArray.getElem_extract]
  simp only [Nat.zero_add]
/-- Is it a fault of sense? -/
def Sense (s : ByteArray) (a e : Int) : Prop :=
  e = 44 ∨ e = 42 ∨ (e = 41 ∧ 48 ≤ bt s a ∧ bt s a ≤ 57) ∨ (e = 43 ∧ isSign (bt s a) ∧ ∃ m : Nat, a = ((m + 1 : Nat) : Int) ∧ ¬ isSign (bt s (m : Int)))
theorem isd_bytes {s : ByteArray} {i : Nat} (h : isd s i = true) : 48 ≤ bt s (i : Int) ∧ bt s (i : Int) ≤ 57 := by
  unfold isd at h
  simp only [Bool.and_eq_true] at h
  exact ⟨of_decide_eq_true h.2.1, of_decide_eq_true h.2.2⟩
theorem side_sense {s : ByteArray} {ps : List Pt} (hp : ∀ p ∈ ps, ∃ t, Pf s t p) {a : Int} (e : badSide s ps = some a) : 48 ≤ bt s a ∧ bt s a ≤ 57 := by
  induction ps with
  | nil => simp [badSide] at e
  | cons p ps ih =>
    simp only [badSide] at e
    obtain ⟨t, P⟩ := hp p (by simp)
    split at e
    · injection e with e
      rw [← e]
      exact isd_bytes P.da
    · exact ih (fun q hq => hp q (by simp [hq])) e
theorem sign_sense {s : ByteArray} {k w h : Int} {ps : List Pt} (hp : ∀ p ∈ ps, ∃ t, Pf s t p) {a : Int} : ∀ n, badSign s k w h ps n = some a → isSign (bt s a) ∧ ∃ m : Nat, a = ((m + 1 : Nat) : Int) ∧ ¬ isSign (bt s (m : Int)) := by
  induction ps with
  | nil => intro n e; simp [badSign] at e
  | cons p ps ih =>
    intro n e
    simp only [badSign] at e
    obtain ⟨t, P⟩ := hp p (by simp)
    split at e
    · exact ih (fun q hq => hp q (by simp [hq])) _ e
    · rename_i hn
      split at e
      · injection e with e
        rcases P.sign with h | ⟨m, h, _, _, h1, h2⟩
        · exact absurd h hn
        · rw [← e, h]
          exact ⟨h1, m, rfl, h2⟩
      · exact ih (fun q hq => hp q (by simp [hq])) _ e
theorem sense_sense {s : ByteArray} {k w h : Int} {ps : List Pt} (hp : ∀ p ∈ ps, ∃ t, Pf s t p) (he : (sense s k w h ps).2 ≠ 0) : Sense s (sense s k w h ps).1 (sense s k w h ps).2 := by
  revert he
  unfold sense
  cases h1 : badSide s ps with
  | some a => intro _; exact .inr (.inr (.inl ⟨rfl, side_sense hp h1⟩))
  | none =>
    cases h2 : badEnd s k ps with
    | some a => intro _; exact .inr (.inl rfl)
    | none =>
      cases h3 : badStar k ps 0 with
      | some a => intro _; exact .inl rfl
      | none =>
        simp only
        by_cases h4 : k = 3 ∧ stars ps = 0
        · rw [if_pos h4]; intro _; exact .inl rfl
        · rw [if_neg h4]
          cases h5 : badSign s k w h ps 0 with
          | some a => intro _; exact .inr (.inr (.inr ⟨rfl, sign_sense hp 0 h5⟩))
          | none => intro h; exact absurd rfl h
theorem form_err {s : ByteArray} {k : Int} (h1 : 1 ≤ s.size) : (form s k).2.2 = 0 ∨ (form s k).2.2 = 41 ∨ (form s k).2.2 = 43 ∨ (form s k).2.2 = 45 := by
  unfold form
  by_cases c0 : s.size = 1 ∧ k ≤ 2
  · rw [if_pos c0]; exact .inl rfl
  rw [if_neg c0]
  obtain ⟨a1, a2, a3, a4⟩ := takes_facts s 1 (k != 5) h1
  simp only
  by_cases c1 : (takes s 1 (k != 5)).2.2 ≠ 0
  · rw [if_pos c1]
    rcases a3 with h | h | h
    · exact .inl h
    · exact .inr (.inl h)
    · exact .inr (.inr (.inl h))
  rw [if_neg c1]
  by_cases c2 : (k != 5 && nxt s (takes s 1 (k != 5)).2.1 [44]) = true
  · rw [if_pos c2]
    have c2' := c2
    simp only [Bool.and_eq_true] at c2'
    have lt := (nxt_at c2'.2).1
    obtain ⟨b1, b2, b3, b4⟩ := takes_facts s ((takes s 1 (k != 5)).2.1 + 1) true (by omega)
    by_cases c3 : (takes s ((takes s 1 (k != 5)).2.1 + 1) true).2.2 ≠ 0
    · rw [if_pos c3]
      rcases b3 with h | h | h
      · exact .inl h
      · exact .inr (.inl h)
      · exact .inr (.inr (.inl h))
    · rw [if_neg c3]
      split
      · exact .inr (.inr (.inr rfl))
      · exact .inl rfl
  · rw [if_neg c2]
    split
    · exact .inr (.inr (.inr rfl))
    · exact .inl rfl
/-- The law. -/
theorem first (s more : ByteArray) (hs : s.size ≤ 40000) (hm : more.size ≤ 1000000) (n : Nat) (hn : n < s.size) (e : Int) (he : e ≠ 0) (hp : parse s = (0, 0, 0, 0, 0, (n : Int), e)) :
    Sense s (n : Int) e ∨ ((e = 40 ∨ e = 41 ∨ e = 43 ∨ e = 45) ∧ parse (cut s more n) = (0, 0, 0, 0, 0, (n : Int), e)) := by
  have hA := cut_agree s more n hn
  have hz := cut_size s more n hn
  generalize cut s more n = s' at hA hz
  revert hp
  unfold parse
  rw [if_neg (show ¬ 1048576 < s.size by omega), if_neg (show ¬ 1048576 < s'.size by omega)]
  have hk : kindOf s' = kindOf s := by
    unfold kindOf
    rw [if_neg (by omega), if_neg (by omega)]
    have := (hA 0 (by omega)).2.2
    rw [show (0 : Int) = ((0 : Nat) : Int) from rfl, this]
  rw [hk]
  by_cases c2 : kindOf s = 0
  · rw [if_pos c2, if_pos c2]
    intro hp
    simp only [Prod.mk.injEq, true_and] at hp
    obtain ⟨h1, h2⟩ := hp
    exact .inr ⟨.inl h2.symm, by rw [← h1, ← h2]⟩
  rw [if_neg c2, if_neg c2]
  simp only
  have h1 : 1 ≤ s.size := by omega
  by_cases c3 : (form s (kindOf s)).2.2 ≠ 0
  · rw [if_pos c3]
    intro hp
    simp only [Prod.mk.injEq, true_and] at hp
    obtain ⟨g1, g2⟩ := hp
    have g3 : (form s (kindOf s)).2.1 = n := by omega
    have hf := form_agree (s := s) (s' := s') (k := kindOf s) h1 c3 (by rw [g3]; exact hA)
    right
    refine ⟨?_, ?_⟩
    · rcases form_err (s := s) (k := kindOf s) h1 with h | h | h | h
      · exact absurd h c3
      · exact .inr (.inl (g2.symm.trans h))
      · exact .inr (.inr (.inl (g2.symm.trans h)))
      · exact .inr (.inr (.inr (g2.symm.trans h)))
    · rw [hf, if_pos c3, g1, g2]
  rw [if_neg c3]
  obtain ⟨f1, f2⟩ := form_facts s (kindOf s) h1
  intro hp
  left
  rcases f2 (by omega) with ⟨z, hk2⟩ | ⟨p, z, P⟩ | ⟨p, q, z, kn, P, Q⟩
  · rw [z] at hp
    simp only [Prod.mk.injEq] at hp
    omega
  · rw [z] at hp
    simp only at hp
    by_cases c4 : (sense s (kindOf s) (val s p.at_ p.en) (val s p.at_ p.en) [p]).2 ≠ 0
    · rw [if_pos c4] at hp
      simp only [Prod.mk.injEq, true_and] at hp
      have := sense_sense (s := s) (k := kindOf s) (w := val s p.at_ p.en) (h := val s p.at_ p.en) (ps := [p]) (by intro y hy; obtain rfl := List.mem_singleton.1 hy; exact ⟨_, P⟩) c4
      rw [hp.1, hp.2] at this
      exact this
    · rw [if_neg c4] at hp
      simp only [Prod.mk.injEq] at hp
      omega
  · rw [z] at hp
    simp only at hp
    by_cases c4 : (sense s (kindOf s) (val s p.at_ p.en) (val s q.at_ q.en) [p, q]).2 ≠ 0
    · rw [if_pos c4] at hp
      simp only [Prod.mk.injEq, true_and] at hp
      have := sense_sense (s := s) (k := kindOf s) (w := val s p.at_ p.en) (h := val s q.at_ q.en) (ps := [p, q]) (by
        intro y hy
        rcases List.mem_cons.1 hy with rfl | hy
        · exact ⟨_, P⟩
        · obtain rfl := List.mem_singleton.1 hy; exact ⟨_, Q⟩) c4
      rw [hp.1, hp.2] at this
      exact this
    · rw [if_neg c4] at hp
      simp only [Prod.mk.injEq] at hp
      omega
end Go.Proofs.YtmcidodpnhkdfaaDoor.FirstPlain
