/- topo.Parse answers what `parse` says. -/
import Derived.Test.YtmcidodpnhkdfaaDoorSensePlain
namespace Go.Proofs.YtmcidodpnhkdfaaDoor.ParseAll
open Go.RowKit Go.Proofs.YtmcidodpnhkdfaaDoorW.PrintWords Go.Proofs.YtmcidodpnhkdfaaDoor.ParseSpec Go.Proofs.YtmcidodpnhkdfaaDoor.Idx Go.Proofs.YtmcidodpnhkdfaaDoor.PQ Go.Proofs.YtmcidodpnhkdfaaDoor.PartWalk Go.Proofs.YtmcidodpnhkdfaaDoor.FormWalk Go.Proofs.YtmcidodpnhkdfaaDoor.ParseWalk Go.Proofs.YtmcidodpnhkdfaaDoor.ParseMain
set_option linter.unusedVariables false
set_option maxRecDepth 100000 in
theorem letters_fin : ∀ b : Fin 256, Lib.indexByte [80, 84, 75, 67, 83] (Go.bits .andNot .u8 ((b.val : Nat) : Int) 32).toNat.toUInt8 = kindB ((b.val : Nat) : Int) - 1 := by decide +kernel
theorem letters (b : Int) (h0 : 0 ≤ b) (h1 : b ≤ 255) : strings_IndexByte.f ⟨#[80, 84, 75, 67, 83]⟩ (Go.bits .andNot .u8 b 32) = some (kindB b - 1) := by
  obtain ⟨n, rfl⟩ := Int.eq_ofNat_of_zero_le h0
  have := letters_fin ⟨n, by omega⟩
  unfold strings_IndexByte.f
  exact congrArg some this
theorem kindB_range (b : Int) : 0 ≤ kindB b ∧ kindB b ≤ 5 := by
  unfold kindB
  repeat' split
  all_goals omega
theorem takes_good (s : ByteArray) (i : Nat) (tail : Bool) (h : i ≤ s.size) (he : (takes s i tail).2.2 = 0) : Go.Proofs.YtmcidodpnhkdfaaDoor.ParseMain.Good s (takes s i tail).1 := by
  have h1 := dg_le h
  have h0 := dg_ge s i
  have h2 := behind_le (tail := tail) h1
  revert he
  unfold takes
  simp only
  split
  · intro he; simp at he
  · split
    · rename_i c
      have c' := c
      unfold nxt at c'
      simp only [Bool.and_eq_true, decide_eq_true_eq] at c'
      have h3 := dg_le (show behind s (dg s i) tail + 1 ≤ s.size by omega)
      have h4 := dg_ge s (behind s (dg s i) tail + 1)
      split
      · intro he; simp at he
      · intro _
        exact ⟨h0, h1, h4, h3, .inr ⟨_, rfl, c'.2.1⟩⟩
    · intro _
      exact ⟨h0, h1, Nat.le_refl _, Nat.zero_le _, .inl (show (-1 : Int) < 0 by decide)⟩
/-- The parts of a form that is right: none, one or two, each inside the text. -/
theorem form_parts (s : ByteArray) (k : Int) (h1 : 1 ≤ s.size) (he : (form s k).2.2 = 0) :
    (form s k).1 = [] ∨ (∃ p, (form s k).1 = [p] ∧ Go.Proofs.YtmcidodpnhkdfaaDoor.ParseMain.Good s p) ∨ (∃ p q, (form s k).1 = [p, q] ∧ Go.Proofs.YtmcidodpnhkdfaaDoor.ParseMain.Good s p ∧ Go.Proofs.YtmcidodpnhkdfaaDoor.ParseMain.Good s q) := by
  revert he
  unfold form
  split
  · intro _; exact .inl rfl
  · simp only
    have hp := takes_le s 1 (k != 5) h1
    have gp := takes_good s 1 (k != 5) h1
    split
    · rename_i hc
      intro he; exact absurd he hc
    · rename_i hc
      have hc0 : (takes s 1 (k != 5)).2.2 = 0 := by simpa using hc
      split
      · rename_i cm
        have cm' := cm
        unfold nxt at cm'
        simp only [Bool.and_eq_true, decide_eq_true_eq] at cm'
        have gq := takes_good s ((takes s 1 (k != 5)).2.1 + 1) true (by omega)
        split
        · rename_i hd
          intro he; exact absurd he hd
        · rename_i hd
          have hd0 : (takes s ((takes s 1 (k != 5)).2.1 + 1) true).2.2 = 0 := by simpa using hd
          split
          · intro he; simp at he
          · intro _; exact .inr (.inr ⟨_, _, rfl, gp hc0, gq hd0⟩)
      · split
        · intro he; simp at he
        · intro _; exact .inr (.inl ⟨_, rfl, gp hc0⟩)
/-- What Parse hands back. -/
def told (r : Int × Int × Int × Int × Int × Int × Int) : Value :=
  .tuple #[.agg #[.int .u8 r.1, .int .i64 r.2.1, .int .i64 r.2.2.1, .int .u8 r.2.2.2.1, .int .i64 r.2.2.2.2.1], .int .i64 r.2.2.2.2.2.1, .int .i64 r.2.2.2.2.2.2]
theorem parse_calls (s : ByteArray) (w : World) : Calls Tryd.prog 14 #[.string s] w fun e w' => e = .returned (told (parse s)) ∧ Below w.heap.size w w' := by
  by_cases hl : 1048576 < s.size
  · have e : parse s = (0, 0, 0, 0, 0, 0, 3) := by unfold parse; rw [if_pos hl]
    rw [e]
    exact p_long s hl w
  · by_cases hz : s.size = 0
    · have e : parse s = (0, 0, 0, 0, 0, 0, 40) := by unfold parse kindOf; rw [if_neg hl, if_pos (by rw [if_pos hz])]
      rw [e]
      exact p_empty s hz w
    · have hs : s.size ≤ 1048576 := by omega
      have h1 : 1 ≤ s.size := by omega
      have hk : kindOf s = kindB (bt s 0) := by unfold kindOf; rw [if_neg hz]
      have hr := bt_range s 0
      have hi := letters (bt s 0) hr.1 hr.2
      have hkr := kindB_range (bt s 0)
      rw [← hk] at hi hkr
      by_cases h0 : kindOf s = 0
      · have e : parse s = (0, 0, 0, 0, 0, 0, 40) := by unfold parse; rw [if_neg hl, if_pos h0]
        rw [e]
        rw [h0] at hi
        exact p_letter s hs h1 hi w
      · generalize hkd : kindOf s = kd at *
        have k1 : 1 ≤ kd := by omega
        have k5 : kd ≤ 5 := hkr.2
        generalize hf : form s kd = F
        have hfp := form_parts s kd h1
        rw [hf] at hfp
        obtain ⟨qs, a, er⟩ := F
        simp only at hfp
        by_cases he : er = 0
        · subst he
          rcases hfp rfl with rfl | ⟨p, rfl, gp⟩ | ⟨p, q, rfl, gp, gq⟩
          · have e : parse s = (kd, 0, 0, 0, 0, 0, 0) := by unfold parse; rw [if_neg hl, hkd, if_neg h0, hf]; rfl
            rw [e]
            exact p_none s kd k1 k5 a hs h1 hi hf w
          · have hS := SensePlain.sense_f s (a : Int) kd (val s p.at_ p.en) (val s p.at_ p.en) [p] hs (by simpa using gp) (by simp)
            generalize hse : sense s kd (val s p.at_ p.en) (val s p.at_ p.en) [p] = S at hS
            obtain ⟨sa, se⟩ := S
            by_cases h : se = 0
            · have e : parse s = (kd, val s p.at_ p.en, val s p.at_ p.en, (turns s [p] 0 (0, 0)).1, (turns s [p] 0 (0, 0)).2, 0, 0) := by
                unfold parse; rw [if_neg hl, hkd, if_neg h0, hf]; simp [hse, h]
              rw [e]
              exact m_1o s hs h1 kd k1 k5 a p gp hi hf 20 sa se hS h w
            · have e : parse s = (0, 0, 0, 0, 0, sa, se) := by
                unfold parse; rw [if_neg hl, hkd, if_neg h0, hf]; simp [hse, h]
              rw [e]
              exact m_1e s hs h1 kd k1 k5 a p gp hi hf 20 sa se hS h w
          · have hS := SensePlain.sense_f s (a : Int) kd (val s p.at_ p.en) (val s q.at_ q.en) [p, q] hs (by simpa using ⟨gp, gq⟩) (by simp)
            generalize hse : sense s kd (val s p.at_ p.en) (val s q.at_ q.en) [p, q] = S at hS
            obtain ⟨sa, se⟩ := S
            by_cases h : se = 0
            · have e : parse s = (kd, val s p.at_ p.en, val s q.at_ q.en, (turns s [p, q] 0 (0, 0)).1, (turns s [p, q] 0 (0, 0)).2, 0, 0) := by
                unfold parse; rw [if_neg hl, hkd, if_neg h0, hf]; simp [hse, h]
              rw [e]
              exact m_2o s hs h1 kd k1 k5 a p q gp gq hi hf 20 sa se hS h w
            · have e : parse s = (0, 0, 0, 0, 0, sa, se) := by
                unfold parse; rw [if_neg hl, hkd, if_neg h0, hf]; simp [hse, h]
              rw [e]
              exact m_2e s hs h1 kd k1 k5 a p q gp gq hi hf 20 sa se hS h w
        · have e : parse s = (0, 0, 0, 0, 0, (a : Int), er) := by
            unfold parse; rw [if_neg hl, hkd, if_neg h0, hf]; simp [he]
          rw [e]
          exact p_form s kd k1 k5 a qs er he hs h1 hi hf w
end Go.Proofs.YtmcidodpnhkdfaaDoor.ParseAll
