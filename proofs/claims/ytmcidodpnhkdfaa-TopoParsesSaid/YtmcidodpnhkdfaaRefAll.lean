/- The reference's Parse answers what `parse` says. -/
import Derived.Test.YtmcidodpnhkdfaaParse
import Derived.Test.YtmcidodpnhkdfaaRefTwo
import Derived.Test.YtmcidodpnhkdfaaRefPlain
namespace Go.Proofs.Ytmcidodpnhkdfaa.RefAll
open Go.RowKit Go.Proofs.YtmcidodpnhkdfaaW.PrintWords Go.Proofs.Ytmcidodpnhkdfaa.ParseSpec Go.Proofs.Ytmcidodpnhkdfaa.PF Go.Proofs.Ytmcidodpnhkdfaa.RefWalk Go.Proofs.Ytmcidodpnhkdfaa.RefPlain
set_option linter.unusedVariables false
theorem good_of {s : ByteArray} {p : Pt} (h : Go.Proofs.Ytmcidodpnhkdfaa.ParseMain.Good s p) : Go.Proofs.Ytmcidodpnhkdfaa.RefWalk.Good s p := ⟨h.o1, h.o2, h.o3, h.o4, h.o5⟩
theorem big (n m : Int) (h : Rl n m) : (m > 65536 ↔ n > 65536) := by unfold Rl at h; omega
theorem small (n m : Int) (h : Rl n m) (c : ¬ m > 65536) : m = n := by unfold Rl at h; omega
/-- Where the sides are no more than 65536, a shift is wrong for both. -/
theorem wrong_eq (s : ByteArray) (kd W H : Int) (p : Pt) (n : Int) (hp : ¬ wv s p.at_ p.en > 65536) : wrongV s kd W H p n = wrong s kd W H p n := by
  have h1 := Rl_val s p.at_ p.en
  have h2 := Rl_val s p.fr p.to_
  have e1 : decide (wv s p.at_ p.en ≤ wv s p.fr p.to_) = decide (val s p.at_ p.en ≤ val s p.fr p.to_) := by
    rw [decide_eq_decide]; unfold Rl at h1 h2; omega
  have e2 : decide (wv s p.fr p.to_ = 0) = decide (val s p.fr p.to_ = 0) := by
    rw [decide_eq_decide]; unfold Rl at h2; omega
  unfold wrongV wrong
  rw [e1, e2]
theorem badSign_eq (s : ByteArray) (kd W H : Int) : ∀ (qs : List Pt) (n : Int), (∀ p ∈ qs, ¬ wv s p.at_ p.en > 65536) → badSignV s kd W H qs n = badSign s kd W H qs n
  | [], _, _ => rfl
  | p :: ps, n, h => by
    simp only [badSignV, badSign]
    rw [wrong_eq s kd W H p n (h p (List.mem_cons_self)), badSign_eq s kd W H ps n (fun q hq => h q (List.mem_cons_of_mem _ hq)), badSign_eq s kd W H ps (n + 1) (fun q hq => h q (List.mem_cons_of_mem _ hq))]
theorem fine (s : ByteArray) (kd W H : Int) : ∀ (qs : List Pt) (n : Int), badSign s kd W H qs n = none → ∀ p ∈ qs, ¬ p.sign < 0 → val s p.fr p.to_ < val s p.at_ p.en
  | [], _, _, p, hp => by cases hp
  | p :: ps, n, h, q, hq => by
    intro hs
    simp only [badSign] at h
    by_cases c : p.sign < 0
    · rw [if_pos c] at h
      rcases List.mem_cons.1 hq with rfl | hq
      · exact absurd c hs
      · exact fine s kd W H ps n h q hq hs
    · rw [if_neg c] at h
      by_cases c2 : wrong s kd W H p n = true
      · rw [if_pos c2] at h; cases h
      · rw [if_neg c2] at h
        rcases List.mem_cons.1 hq with rfl | hq
        · unfold wrong at c2
          simp only [Bool.or_eq_true, decide_eq_true_eq, not_or] at c2
          omega
        · exact fine s kd W H ps (n + 1) h q hq hs
theorem turns_eq (s : ByteArray) : ∀ (qs : List Pt) (i : Int) (ts : Int × Int), (∀ p ∈ qs, ¬ p.sign < 0 → wv s p.fr p.to_ = val s p.fr p.to_) → turnsV (wv s) s qs i ts = turns s qs i ts
  | [], _, _, _ => rfl
  | p :: ps, i, ts, h => by
    simp only [turnsV, turns]
    rw [turns_eq s ps _ _ (fun q hq => h q (List.mem_cons_of_mem _ hq))]
    by_cases c : p.sign < 0
    · have c0 : ¬ 0 ≤ p.sign := by omega
      simp only [if_neg c0]
    · rw [h p List.mem_cons_self c]
theorem twist_f (s : ByteArray) (kd : Int) (qs : List Pt) (hl : qs.length ≤ 2) : vivariumref04_twist.f 10 s kd (qs.map toR) = match badStar kd qs 0 with
      | some a => some (a, true)
      | none => some ((s.size : Int), if kd = 3 then stars qs == 0 else false) := by
  have := twist_l s kd qs hl qs.length 10 0 0 (by omega) (by omega) (by omega)
  rw [show ((0 : Nat) : Int) = 0 from rfl, List.drop_zero, Int.zero_add] at this
  exact this
theorem shift_f (s : ByteArray) (kd W H : Int) (qs : List Pt) (hs : s.size ≤ 1048576) (hg : ∀ p ∈ qs, Go.Proofs.Ytmcidodpnhkdfaa.RefWalk.Good s p) (hl : qs.length ≤ 2) (hp : ∀ p ∈ qs, ¬ wv s p.at_ p.en > 65536) : vivariumref04_shift.f (s.size + 20) s kd (qs.map toR) W H = match badSign s kd W H qs 0 with
      | some a => some (a, true)
      | none => some (0, false) := by
  have := shift_l s kd W H qs hs hg hl qs.length (s.size + 20) 0 0 (by omega) (by omega) (by omega)
  rw [show ((0 : Nat) : Int) = 0 from rfl, List.drop_zero, badSign_eq s kd W H qs 0 hp] at this
  exact this
/-- What stars, and then what shifts say. -/
theorem sense_past (s : ByteArray) (kd W H : Int) (qs : List Pt) (h1 : badSide s qs = none) (h2 : badEnd s kd qs = none) : sense s kd W H qs =
    match badStar kd qs 0 with
      | some a => (a, 44)
      | none => if kd = 3 ∧ stars qs = 0 then (s.size, 44) else match badSign s kd W H qs 0 with
        | some a => (a, 43)
        | none => (0, 0) := by
  unfold sense
  simp only [h1, h2]
  rfl
theorem ref_calls (s : ByteArray) (w : World) : Calls Try.prog 17 #[.string s] w fun e w' => e = .returned (ParseAll.told (parse s)) ∧ Below w.heap.size w w' := by
  by_cases hl : 1048576 < s.size
  · have e : parse s = (0, 0, 0, 0, 0, 0, 3) := by unfold parse; rw [if_pos hl]
    rw [e]
    exact r_long s hl w
  · have hs : s.size ≤ 1048576 := by omega
    have hf := form_f s hs
    by_cases h0 : kindOf s = 0
    · have e : parse s = (0, 0, 0, 0, 0, 0, 40) := by unfold parse; rw [if_neg hl, if_pos h0]
      rw [e]
      rw [if_pos h0] at hf
      exact r_form s hs 20 0 0 40 [] hf (by decide) w
    · rw [if_neg h0] at hf
      have h1 : 1 ≤ s.size := by
        rcases Nat.eq_zero_or_pos s.size with h | h
        · exact absurd (show kindOf s = 0 by unfold kindOf; rw [if_pos h]) h0
        · exact h
      generalize hkd : kindOf s = kd at *
      have hfp := ParseAll.form_parts s kd h1
      generalize hF : form s kd = F at hf hfp
      obtain ⟨qs, a, er⟩ := F
      simp only at hfp
      by_cases he : er = 0
      · subst he
        have hf' : vivariumref04_form.f 20 s = some (kd, qs.map toR, 0, 0) := hf
        have hV := fun a b h1 h2 => worth_f s hs (s.size + 1) (by omega) a b h1 h2
        rcases hfp rfl with rfl | ⟨p, rfl, gp⟩ | ⟨p, q, rfl, gp, gq⟩
        · have e : parse s = (kd, 0, 0, 0, 0, 0, 0) := by unfold parse; rw [if_neg hl, hkd, if_neg h0, hF]; rfl
          rw [e]
          exact r_none s hs 20 kd 0 hf' w
        · have hp' := good_of gp
          have rp := Rl_val s p.at_ p.en
          have pe : ∀ r : Int × Int, sense s kd (val s p.at_ p.en) (val s p.at_ p.en) [p] = r → r.2 ≠ 0 → parse s = (0, 0, 0, 0, 0, r.1, r.2) := by
            intro r hr hn
            unfold parse; rw [if_neg hl, hkd, if_neg h0, hF]; simp [hr, hn]
          by_cases c1 : wv s p.at_ p.en > 65536
          · rw [pe (p.at_, 41) (by unfold sense badSide; rw [if_pos ((big _ _ rp).1 c1)]) (by simp)]
            exact r_1sideW s hs 20 kd 0 p hp' hf' (s.size + 1) (wv s) hV c1 w
          · have ep := small _ _ rp c1
            have hb1 : badSide s [p] = none := by unfold badSide; rw [if_neg (by omega)]; rfl
            by_cases c3 : 3 ≤ kd ∧ wv s p.at_ p.en = 0
            · rw [pe (p.at_, 42) (by unfold sense; rw [hb1]; unfold badEnd; rw [if_pos (by omega)]) (by simp)]
              exact r_1endW s hs 20 kd 0 p hp' hf' (s.size + 1) (wv s) hV c1 c3 w
            · have hb2 : badEnd s kd [p] = none := by unfold badEnd; rw [if_neg (by omega)]; rfl
              have hsn := sense_past s kd (val s p.at_ p.en) (val s p.at_ p.en) [p] hb1 hb2
              have ht := twist_f s kd [p] (by simp)
              have hall : ∀ x ∈ [p], ¬ wv s x.at_ x.en > 65536 := by simpa using c1
              have hsf := shift_f s kd (wv s p.at_ p.en) (wv s p.at_ p.en) [p] hs (by simpa using hp') (by simp) hall
              rw [ep] at hsf
              cases hst : badStar kd [p] 0 with
              | some x =>
                rw [hst] at ht hsn
                rw [pe (x, 44) hsn (by simp)]
                exact r_1twist s hs 20 kd 0 p hp' hf' (s.size + 1) (wv s) hV c1 c3 10 x true ht rfl w
              | none =>
                rw [hst] at ht hsn
                by_cases ck : kd = 3 ∧ stars [p] = 0
                · simp only [if_pos ck] at hsn
                  rw [pe (s.size, 44) hsn (by simp)]
                  exact r_1twist s hs 20 kd 0 p hp' hf' (s.size + 1) (wv s) hV c1 c3 10 s.size true (ht.trans (by simp [ck.1, ck.2])) rfl w
                · simp only [if_neg ck] at hsn
                  have htf : vivariumref04_twist.f 10 s kd [toR p] = some ((s.size : Int), false) := by
                    have ht' : vivariumref04_twist.f 10 s kd [toR p] = some ((s.size : Int), if kd = 3 then stars [p] == 0 else false) := ht
                    rw [ht']
                    by_cases k3 : kd = 3
                    · rw [if_pos k3, show (stars [p] == 0) = false by simp only [beq_eq_false_iff_ne, ne_eq]; exact fun h => ck ⟨k3, h⟩]
                    · rw [if_neg k3]
                  cases hsg : badSign s kd (val s p.at_ p.en) (val s p.at_ p.en) [p] 0 with
                  | some x =>
                    rw [hsg] at hsn hsf
                    rw [pe (x, 43) hsn (by simp)]
                    exact r_1shift s hs 20 kd 0 p hp' hf' (s.size + 1) (wv s) hV c1 c3 10 s.size false htf rfl (s.size + 20) x true (by rw [ep]; exact hsf) rfl w
                  | none =>
                    rw [hsg] at hsn hsf
                    have hfi := fine s kd _ _ [p] 0 hsg
                    have htu := turns_eq s [p] 0 (0, 0) (fun x hx hn => by
                      have := hfi x hx hn
                      have h1 := Rl_val s x.fr x.to_
                      have h2 := Rl_val s x.at_ x.en
                      have h3 := hall x hx
                      unfold Rl at h1 h2
                      omega)
                    have e : parse s = (kd, val s p.at_ p.en, val s p.at_ p.en, (turns s [p] 0 (0, 0)).1, (turns s [p] 0 (0, 0)).2, 0, 0) := by
                      unfold parse; rw [if_neg hl, hkd, if_neg h0, hF]; simp [hsn]
                    rw [e, ← htu, ← ep]
                    exact r_1ok s hs 20 kd 0 p hp' hf' (s.size + 1) (wv s) hV c1 c3 10 s.size false htf rfl (s.size + 20) 0 false (by rw [ep]; exact hsf) rfl (wv_range s) w
        · have hp' := good_of gp
          have hq' := good_of gq
          have rp := Rl_val s p.at_ p.en
          have rq := Rl_val s q.at_ q.en
          have pe : ∀ r : Int × Int, sense s kd (val s p.at_ p.en) (val s q.at_ q.en) [p, q] = r → r.2 ≠ 0 → parse s = (0, 0, 0, 0, 0, r.1, r.2) := by
            intro r hr hn
            unfold parse; rw [if_neg hl, hkd, if_neg h0, hF]; simp [hr, hn]
          by_cases c1 : wv s p.at_ p.en > 65536
          · rw [pe (p.at_, 41) (by unfold sense badSide; rw [if_pos ((big _ _ rp).1 c1)]) (by simp)]
            exact r_2sideW s hs 20 kd 0 p q hp' hq' hf' (s.size + 1) (wv s) hV c1 w
          · have ep := small _ _ rp c1
            by_cases c2 : wv s q.at_ q.en > 65536
            · rw [pe (q.at_, 41) (by unfold sense; simp only [badSide]; rw [if_neg (by omega), if_pos ((big _ _ rq).1 c2)]) (by simp)]
              exact r_2sideH s hs 20 kd 0 p q hp' hq' hf' (s.size + 1) (wv s) hV c1 c2 w
            · have eq := small _ _ rq c2
              have hb1 : badSide s [p, q] = none := by simp only [badSide]; rw [if_neg (by omega), if_neg (by omega)]
              by_cases c3 : 3 ≤ kd ∧ wv s p.at_ p.en = 0
              · rw [pe (p.at_, 42) (by unfold sense; rw [hb1]; simp only [badEnd]; rw [if_pos (by omega)]) (by simp)]
                exact r_2endW s hs 20 kd 0 p q hp' hq' hf' (s.size + 1) (wv s) hV c1 c2 c3 w
              · by_cases c4 : 3 ≤ kd ∧ wv s q.at_ q.en = 0
                · rw [pe (q.at_, 42) (by unfold sense; rw [hb1]; simp only [badEnd]; rw [if_neg (by omega), if_pos (by omega)]) (by simp)]
                  exact r_2endH s hs 20 kd 0 p q hp' hq' hf' (s.size + 1) (wv s) hV c1 c2 c3 c4 w
                · have hb2 : badEnd s kd [p, q] = none := by simp only [badEnd]; rw [if_neg (by omega), if_neg (by omega)]
                  have hsn := sense_past s kd (val s p.at_ p.en) (val s q.at_ q.en) [p, q] hb1 hb2
                  have ht := twist_f s kd [p, q] (by simp)
                  have hall : ∀ x ∈ [p, q], ¬ wv s x.at_ x.en > 65536 := by
                    intro x hx
                    simp only [List.mem_cons, List.not_mem_nil, or_false] at hx
                    rcases hx with rfl | rfl
                    · exact c1
                    · exact c2
                  have hsf := shift_f s kd (wv s p.at_ p.en) (wv s q.at_ q.en) [p, q] hs (by simpa using ⟨hp', hq'⟩) (by simp) hall
                  rw [ep, eq] at hsf
                  cases hst : badStar kd [p, q] 0 with
                  | some x =>
                    rw [hst] at ht hsn
                    rw [pe (x, 44) hsn (by simp)]
                    exact r_2twist s hs 20 kd 0 p q hp' hq' hf' (s.size + 1) (wv s) hV c1 c2 c3 c4 10 x true ht rfl w
                  | none =>
                    rw [hst] at ht hsn
                    by_cases ck : kd = 3 ∧ stars [p, q] = 0
                    · simp only [if_pos ck] at hsn
                      rw [pe (s.size, 44) hsn (by simp)]
                      exact r_2twist s hs 20 kd 0 p q hp' hq' hf' (s.size + 1) (wv s) hV c1 c2 c3 c4 10 s.size true (ht.trans (by simp [ck.1, ck.2])) rfl w
                    · simp only [if_neg ck] at hsn
                      have htf : vivariumref04_twist.f 10 s kd [toR p, toR q] = some ((s.size : Int), false) := by
                        have ht' : vivariumref04_twist.f 10 s kd [toR p, toR q] = some ((s.size : Int), if kd = 3 then stars [p, q] == 0 else false) := ht
                        rw [ht']
                        by_cases k3 : kd = 3
                        · rw [if_pos k3, show (stars [p, q] == 0) = false by simp only [beq_eq_false_iff_ne, ne_eq]; exact fun h => ck ⟨k3, h⟩]
                        · rw [if_neg k3]
                      cases hsg : badSign s kd (val s p.at_ p.en) (val s q.at_ q.en) [p, q] 0 with
                      | some x =>
                        rw [hsg] at hsn hsf
                        rw [pe (x, 43) hsn (by simp)]
                        exact r_2shift s hs 20 kd 0 p q hp' hq' hf' (s.size + 1) (wv s) hV c1 c2 c3 c4 10 s.size false htf rfl (s.size + 20) x true (by rw [ep, eq]; exact hsf) rfl w
                      | none =>
                        rw [hsg] at hsn hsf
                        have hfi := fine s kd _ _ [p, q] 0 hsg
                        have htu := turns_eq s [p, q] 0 (0, 0) (fun x hx hn => by
                          have := hfi x hx hn
                          have h1 := Rl_val s x.fr x.to_
                          have h2 := Rl_val s x.at_ x.en
                          have h3 := hall x hx
                          unfold Rl at h1 h2
                          omega)
                        have e : parse s = (kd, val s p.at_ p.en, val s q.at_ q.en, (turns s [p, q] 0 (0, 0)).1, (turns s [p, q] 0 (0, 0)).2, 0, 0) := by
                          unfold parse; rw [if_neg hl, hkd, if_neg h0, hF]; simp [hsn]
                        rw [e, ← htu, ← ep, ← eq]
                        exact r_2ok s hs 20 kd 0 p q hp' hq' hf' (s.size + 1) (wv s) hV c1 c2 c3 c4 10 s.size false htf rfl (s.size + 20) 0 false (by rw [ep, eq]; exact hsf) rfl (wv_range s) w
      · have e : parse s = (0, 0, 0, 0, 0, (a : Int), er) := by
          unfold parse; rw [if_neg hl, hkd, if_neg h0, hF]; simp [he]
        rw [e]
        have hf' : vivariumref04_form.f 20 s = some (kd, [], (a : Int), er) := by
          rw [hf]; unfold rf; rw [if_pos he]; rfl
        exact r_form s hs 20 kd a er [] hf' he w
end Go.Proofs.Ytmcidodpnhkdfaa.RefAll
