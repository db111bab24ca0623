/- The reference's worth, form, twist and shift, plain. -/
import Derived.Test.YtmcidodpnhkdfaaPFx4
import Derived.Test.YtmcidodpnhkdfaaRefWalk
namespace Go.Proofs.Ytmcidodpnhkdfaa.RefPlain
open Go.RowKit Go.Proofs.YtmcidodpnhkdfaaW.PrintWords Go.Proofs.Ytmcidodpnhkdfaa.ParseSpec Go.Proofs.Ytmcidodpnhkdfaa.PF Go.Proofs.Ytmcidodpnhkdfaa.RefWalk
set_option linter.unusedVariables false
theorem ext_size (s : ByteArray) (a b : Nat) (h1 : a ≤ b) (h2 : b ≤ s.size) : (s.extract a b).size = b - a := by
  rw [ByteArray.size_extract]; omega
theorem ext_bt (s : ByteArray) (a b : Nat) (h1 : a ≤ b) (h2 : b ≤ s.size) (i : Nat) (hi : i < b - a) : bt (s.extract a b) i = bt s ((a + i : Nat) : Int) := by
  unfold bt
  have e1 : (i : Int).toNat < (s.extract a b).size := by rw [ext_size s a b h1 h2]; omega
  have e2 : ((a + i : Nat) : Int).toNat < s.size := by omega
  rw [dif_pos e1, dif_pos e2]
  simp only [Int.toNat_natCast]
  rw [ByteArray.getElem_extract]
def stepw (n b : Int) : Int := if 10 * n + (b - 48) % 256 > 1048576 then 1048577 else 10 * n + (b - 48) % 256
def wvf (s : ByteArray) : Nat → Nat → Int → Int
  | 0, _, n => n
  | f + 1, i, n => wvf s f (i + 1) (stepw n (bt s i))
/-- A number's worth, as the reference has it. -/
def wv (s : ByteArray) (i j : Nat) : Int := wvf s (j - i) i 0
theorem stepw_range (n b : Int) (h0 : 0 ≤ n) : 0 ≤ stepw n b ∧ stepw n b ≤ 1048577 := by
  unfold stepw; split <;> omega
theorem wvf_range (s : ByteArray) : ∀ f i n, 0 ≤ n ∧ n ≤ 1048577 → 0 ≤ wvf s f i n ∧ wvf s f i n ≤ 1048577
  | 0, _, n, h => h
  | f + 1, i, n, h => wvf_range s f (i + 1) _ (stepw_range n _ h.1)
theorem wv_range (s : ByteArray) (i j : Nat) : 0 ≤ wv s i j ∧ wv s i j ≤ 1048577 := wvf_range s _ _ _ (by omega)
/-- The two worths: the same below 131072. -/
def Rl (n m : Int) : Prop := (n = m ∧ 0 ≤ n ∧ n < 131072) ∨ (n = 131072 ∧ 131072 ≤ m ∧ m ≤ 1048577)
theorem Rl_step (n m b : Int) (h : Rl n m) : Rl (stepv n b) (stepw m b) := by
  unfold Rl stepv stepw at *
  omega
theorem Rl_f (s : ByteArray) : ∀ f i n m, Rl n m → Rl (valf s f i n) (wvf s f i m)
  | 0, _, _, _, h => h
  | f + 1, i, n, m, h => Rl_f s f (i + 1) _ _ (Rl_step n m _ h)
theorem Rl_val (s : ByteArray) (i j : Nat) : Rl (val s i j) (wv s i j) := Rl_f s _ _ _ _ (.inl ⟨rfl, by omega, by omega⟩)
theorem worth_l (s : ByteArray) (a b : Nat) (h1 : a ≤ b) (h2 : b ≤ s.size) (hs : s.size ≤ 1048576) : ∀ (d k i : Nat) (n : Int), i + d = b - a → d < k → 0 ≤ n ∧ n ≤ 1048577 →
    vivariumref04_worth.l0 k (s.extract a b) n (i : Int) = some (wvf s d (a + i) n) := by
  have hz := ext_size s a b h1 h2
  intro d
  induction d with
  | zero =>
    intro k i n hi hk hn
    obtain ⟨k, rfl⟩ : ∃ m, k = m + 1 := ⟨k - 1, by omega⟩
    simp only [vivariumref04_worth.l0]
    rw [if_neg (by rw [hz]; omega)]
    rfl
  | succ d ih =>
    intro k i n hi hk hn
    obtain ⟨k, rfl⟩ : ∃ m, k = m + 1 := ⟨k - 1, by omega⟩
    simp only [vivariumref04_worth.l0]
    have hr := bt_range s ((a + i : Nat) : Int)
    have e1 : wrap64 (wrap64 (10 * n) + (bt s ((a + i : Nat) : Int) - 48) % 256) = 10 * n + (bt s ((a + i : Nat) : Int) - 48) % 256 := by unfold wrap64; omega
    rw [if_pos (by rw [hz]; omega), if_pos (by omega), ext_bt s a b h1 h2 i (by omega), e1, show wrap64 ((i : Int) + 1) = ((i + 1 : Nat) : Int) by unfold wrap64; omega]
    have hst := stepw_range n (bt s ((a + i : Nat) : Int)) hn.1
    have := ih k (i + 1) (stepw n (bt s ((a + i : Nat) : Int))) (by omega) (by omega) hst
    rw [show a + (i + 1) = a + i + 1 by omega] at this
    rw [show wvf s (d + 1) (a + i) n = wvf s d (a + i + 1) (stepw n (bt s ((a + i : Nat) : Int))) from rfl, ← this]
    unfold stepw
    split <;> rfl
theorem worth_f (s : ByteArray) (hs : s.size ≤ 1048576) (k : Nat) (hk : s.size < k) (a b : Nat) (h1 : a ≤ b) (h2 : b ≤ s.size) : vivariumref04_worth.f k (s.extract a b) = some (wv s a b) := by
  unfold vivariumref04_worth.f
  exact worth_l s a b h1 h2 hs (b - a) k 0 0 (by omega) (by omega) (by omega)
set_option maxRecDepth 100000 in
theorem kind_fin : ∀ b : Fin 256, vivariumref04_kind.f 10 ((b.val : Nat) : Int) = some (kindB ((b.val : Nat) : Int)) := by decide +kernel
theorem kind_f (b : Int) (h0 : 0 ≤ b) (h1 : b ≤ 255) : ∀ k, 10 ≤ k → vivariumref04_kind.f k b = some (kindB b)
  | k, hk => by
    obtain ⟨n, rfl⟩ := Int.eq_ofNat_of_zero_le h0
    obtain ⟨m, rfl⟩ : ∃ m, k = 10 + m := ⟨k - 10, by omega⟩
    clear hk
    induction m with
    | zero => exact kind_fin ⟨n, by omega⟩
    | succ m ih => exact vivariumref04_kind.mono _ _ _ ih
theorem takes_f (s : ByteArray) (hs : s.size ≤ 1048576) (k : Nat) (i : Nat) (hi : i ≤ s.size) (t : Bool) : vivariumref04_takes.f k s (i : Int) t = some (((takes s i t).1.at_ : Int), ((takes s i t).1.en : Int), (takes s i t).1.star, (takes s i t).1.sign, ((takes s i t).1.fr : Int), ((takes s i t).1.to_ : Int), ((takes s i t).2.1 : Int), (takes s i t).2.2) := by
  unfold vivariumref04_takes.f
  rw [if_pos ⟨by omega, by omega, hs⟩]
  rfl
/-- What the reference's form answers. -/
def refForm (s : ByteArray) : Int × List Pt × Int × Int :=
  if kindOf s = 0 then (0, [], 0, 40)
  else if (form s (kindOf s)).2.2 ≠ 0 then (kindOf s, [], ((form s (kindOf s)).2.1 : Int), (form s (kindOf s)).2.2) else (kindOf s, (form s (kindOf s)).1, 0, 0)
theorem bl {s : ByteArray} {i : Nat} {tail : Bool} (h : i ≤ s.size) : behind s i tail ≤ s.size := by
  unfold behind
  split
  · rename_i c
    unfold nxt at c
    simp only [Bool.and_eq_true, decide_eq_true_eq] at c
    omega
  · exact h
theorem takes_le' (s : ByteArray) (i : Nat) (tail : Bool) (h : i ≤ s.size) : (takes s i tail).2.1 ≤ s.size := by
  have h1 := dg_le h
  have h2 := bl (tail := tail) h1
  unfold takes
  simp only
  split
  · exact h
  · split
    · rename_i c
      unfold nxt at c
      simp only [Bool.and_eq_true, decide_eq_true_eq] at c
      have h3 := dg_le (show behind s (dg s i) tail + 1 ≤ s.size by omega)
      split <;> simp <;> omega
    · exact h2
theorem nxt44 (s : ByteArray) (a : Nat) (h : a < s.size) : nxt s a [44] = (bt s (a : Int) == 44) := by
  unfold nxt
  rw [decide_eq_true h, Bool.true_and, Bool.eq_iff_iff]
  simp
theorem nxt44' (s : ByteArray) (a : Nat) (h : ¬ a < s.size) : nxt s a [44] = false := by
  unfold nxt
  rw [decide_eq_false h, Bool.false_and]
theorem form_j2 (s : ByteArray) (hs : s.size ≤ 1048576) (k : Nat) (kd : Int) (a : Nat) (ha : a ≤ s.size) (p q : Pt) (b : Nat) (f : Int) (hU : takes s (a + 1) true = (q, b, f)) (c : Bool) (hc : c = true → a < s.size) :
    vivariumref04_form.j2 (k + 1) s kd (a : Int) [toR p] c =
      if c = true then (if f = 0 then (if b < s.size then some (kd, [], (b : Int), 45) else some (kd, [toR p, toR q], 0, 0)) else some (kd, [], (b : Int), f))
      else (if a < s.size then some (kd, [], (a : Int), 45) else some (kd, [toR p], 0, 0)) := by
  simp only [vivariumref04_form.j2]
  cases c with
  | false =>
    simp only [Bool.false_eq_true, if_false]
    by_cases h : a < s.size
    · rw [if_pos h, if_pos (show (a : Int) < (s.size : Int) by omega)]
    · rw [if_neg h, if_neg (show ¬ (a : Int) < (s.size : Int) by omega)]
  | true =>
    have h := hc rfl
    simp only [if_true]
    rw [show wrap64 ((a : Int) + 1) = ((a + 1 : Nat) : Int) by unfold wrap64; omega, takes_f s hs k (a + 1) (by omega) true, hU]
    simp only [Option.bind_some]
    by_cases he : f = 0
    · rw [if_pos he, if_pos he, if_pos (by simp)]
      by_cases h2 : b < s.size
      · rw [if_pos h2, if_pos (by omega)]
      · rw [if_neg h2, if_neg (by omega)]
        rfl
    · rw [if_neg he, if_neg he]
def rf (kd : Int) (F : List Pt × Nat × Int) : Int × List Pt × Int × Int := if F.2.2 ≠ 0 then (kd, [], (F.2.1 : Int), F.2.2) else (kd, F.1, 0, 0)
def up4 (r : Int × List Pt × Int × Int) : Int × List S66 × Int × Int := (r.1, r.2.1.map toR, r.2.2.1, r.2.2.2)
theorem form_j1 (s : ByteArray) (hs : s.size ≤ 1048576) (h1s : 1 ≤ s.size) (kd : Int) (c : Bool) (hc : c = decide (s.size = 1 ∧ kd ≤ 2)) : vivariumref04_form.j1 19 s kd c = some (up4 (rf kd (form s kd))) := by
  simp only [vivariumref04_form.j1]
  by_cases h0 : s.size = 1 ∧ kd ≤ 2
  · have hf : form s kd = ([], 1, 0) := by unfold form; rw [if_pos h0]
    rw [hc, decide_eq_true h0, if_pos rfl, hf]
    rfl
  · rw [hc, decide_eq_false h0]
    simp only [Bool.false_eq_true, if_false]
    have hta := takes_le' s 1 (kd != 5) h1s
    rw [show (1 : Int) = ((1 : Nat) : Int) from rfl, takes_f s hs 18 1 h1s (kd != 5)]
    generalize hT : takes s 1 (kd != 5) = T at hta
    obtain ⟨p, a, e⟩ := T
    simp only at hta
    simp only [Option.bind_some]
    by_cases he : e = 0
    · subst he
      rw [if_pos rfl]
      have ep : [(⟨(p.at_ : Int), (p.en : Int), p.star, p.sign, (p.fr : Int), (p.to_ : Int)⟩ : S66)] = [toR p] := rfl
      rw [ep]
      generalize hU : takes s (a + 1) true = U
      obtain ⟨q, b, f⟩ := U
      have J := fun c hc => form_j2 s hs 17 kd a hta p q b f hU c hc
      have go : ∀ c : Bool, c = (kd != 5 && nxt s a [44]) → (c = true → a < s.size) → vivariumref04_form.j2 18 s kd (a : Int) [toR p] c = some (up4 (rf kd (form s kd))) := by
        intro c hc hl
        rw [J c hl]
        cases c with
        | true =>
          have hb : (kd != 5 && nxt s a [44]) = true := hc.symm
          rw [if_pos rfl]
          by_cases hf0 : f = 0
          · rw [if_pos hf0]
            by_cases hm : b < s.size
            · have hf : form s kd = ([p, q], b, 45) := by unfold form; rw [if_neg h0, hT]; simp [hb, hU, hf0, hm]
              rw [if_pos hm, hf]; rfl
            · have hf : form s kd = ([p, q], b, 0) := by unfold form; rw [if_neg h0, hT]; simp [hb, hU, hf0, hm]
              rw [if_neg hm, hf]; rfl
          · have hf : form s kd = ([p], b, f) := by unfold form; rw [if_neg h0, hT]; simp [hb, hU, hf0]
            rw [if_neg hf0, hf]
            unfold rf
            rw [if_pos hf0]
            rfl
        | false =>
          have hb : (kd != 5 && nxt s a [44]) = false := hc.symm
          simp only [Bool.false_eq_true, if_false]
          by_cases hm : a < s.size
          · have hf : form s kd = ([p], a, 45) := by unfold form; rw [if_neg h0, hT]; simp [hb, hm]
            rw [if_pos hm, hf]; rfl
          · have hf : form s kd = ([p], a, 0) := by unfold form; rw [if_neg h0, hT]; simp [hb, hm]
            rw [if_neg hm, hf]; rfl
      by_cases h5 : kd = 5
      · rw [if_pos h5]
        exact go false (by simp [h5]) (fun h => by cases h)
      · rw [if_neg h5]
        have hk : (kd != 5) = true := by simpa using h5
        by_cases hm : a < s.size
        · rw [if_pos (show (a : Int) < (s.size : Int) by omega), if_pos (show (0 : Int) ≤ (a : Int) by omega)]
          exact go _ (by rw [hk, Bool.true_and, nxt44 s a hm]) (fun _ => hm)
        · rw [if_neg (show ¬ (a : Int) < (s.size : Int) by omega)]
          exact go false (by rw [nxt44' s a hm, Bool.and_false]) (fun h => by cases h)
    · have hf : form s kd = ([], a, e) := by unfold form; rw [if_neg h0, hT]; simp [he]
      rw [if_neg he, hf]
      unfold rf
      rw [if_pos he]
      rfl
theorem form_f (s : ByteArray) (hs : s.size ≤ 1048576) : vivariumref04_form.f 20 s = some (up4 (if kindOf s = 0 then (0, [], 0, 40) else rf (kindOf s) (form s (kindOf s)))) := by
  unfold vivariumref04_form.f
  by_cases hz : s.size = 0
  · rw [if_pos (by omega), if_pos (show kindOf s = 0 by unfold kindOf; rw [if_pos hz])]
    simp only [vivariumref04_form.j0, if_true]
    rfl
  · have hk : kindOf s = kindB (bt s 0) := by unfold kindOf; rw [if_neg hz]
    have hr := bt_range s 0
    rw [if_neg (by omega), if_pos (by omega), kind_f _ hr.1 hr.2 20 (by omega), ← hk]
    simp only [Option.bind_some]
    by_cases h0 : kindOf s = 0
    · rw [if_pos h0, h0]
      simp only [vivariumref04_form.j0, BEq.rfl, if_true]
      rfl
    · rw [if_neg h0, show (kindOf s == 0) = false by simpa using h0]
      simp only [vivariumref04_form.j0, Bool.false_eq_true, if_false]
      rw [if_pos (show (0 : Int) < (s.size : Int) by omega), kind_f _ hr.1 hr.2 19 (by omega), ← hk]
      simp only [Option.bind_some]
      by_cases h1 : s.size = 1
      · rw [if_pos (by omega)]
        exact form_j1 s hs (by omega) _ _ (by rw [Bool.eq_iff_iff]; simp [h1])
      · rw [if_neg (by omega)]
        exact form_j1 s hs (by omega) _ _ (by rw [decide_eq_false (fun h => h1 h.1)])
section
variable (s : ByteArray) (kd W H : Int) (qs : List Pt)
theorem rdR (i : Nat) (p : Pt) (h : qs[i]? = some p) : rd_T66 (qs.map toR) (i : Int) = (⟨p.at_, p.en, p.star, p.sign, p.fr, p.to_⟩ : S66) := by
  unfold rd_T66
  simp [List.getD_eq_getElem?_getD, h, toR]
theorem wrap_i (i : Nat) (h : i ≤ 2) : wrap64 ((i : Int) + 1) = ((i + 1 : Nat) : Int) := by unfold wrap64; omega
theorem cons_at (i : Nat) (h : i < qs.length) : ∃ p, qs[i]? = some p ∧ p ∈ qs ∧ qs.drop i = p :: qs.drop (i + 1) :=
  ⟨qs[i], List.getElem?_eq_getElem h, List.getElem_mem h, List.drop_eq_getElem_cons h⟩
theorem twist_l (hl : qs.length ≤ 2) : ∀ (d k i n : Nat), i + d = qs.length → d + 1 ≤ k → n ≤ i →
    vivariumref04_twist.l0 k s kd (qs.map toR) (n : Int) (i : Int) = match badStar kd (qs.drop i) (n : Int) with
      | some a => some (a, true)
      | none => some ((s.size : Int), if kd = 3 then ((n : Int) + stars (qs.drop i)) == 0 else false) := by
  intro d
  induction d with
  | zero =>
    intro k i n h1 h2 h3
    obtain ⟨k, rfl⟩ : ∃ m, k = m + 1 := ⟨k - 1, by omega⟩
    rw [List.drop_eq_nil_of_le (by omega)]
    simp only [vivariumref04_twist.l0, badStar, stars, Int.add_zero, List.length_map]
    rw [if_neg (show ¬ (i : Int) < (qs.length : Int) by omega)]
    by_cases c : kd = 3
    · rw [if_pos c, if_pos c]
    · rw [if_neg c, if_neg c]
  | succ d ih =>
    intro k i n h1 h2 h3
    obtain ⟨k, rfl⟩ : ∃ m, k = m + 1 := ⟨k - 1, by omega⟩
    obtain ⟨p, hp, hm, hd⟩ := cons_at qs i (by omega)
    rw [hd]
    simp only [vivariumref04_twist.l0, badStar, stars, List.length_map]
    rw [if_pos (show (i : Int) < (qs.length : Int) by omega), if_pos (show (0 : Int) ≤ (i : Int) by omega), rdR qs i p hp]
    dsimp only
    rw [wrap_i i (by omega), wrap_i n (by omega)]
    by_cases c : p.star < 0
    · rw [if_neg (show ¬ p.star ≥ 0 by omega), if_pos c, if_pos c, Int.zero_add]
      exact ih k (i + 1) n (by omega) (by omega) (by omega)
    · rw [if_pos (show p.star ≥ 0 by omega), if_neg c, if_neg c]
      by_cases c2 : kd = 3
      · rw [if_pos c2]
        by_cases c3 : ((n + 1 : Nat) : Int) = 2
        · rw [if_pos c3, if_pos (.inr (by omega))]
        · rw [if_neg c3, if_neg (show ¬ (kd ≠ 3 ∨ (n : Int) + 1 > 1) by omega)]
          have := ih k (i + 1) (n + 1) (by omega) (by omega) (by omega)
          rw [this, show ((n + 1 : Nat) : Int) = (n : Int) + 1 by omega, Int.add_assoc]
      · rw [if_neg c2, if_pos (.inl c2)]
/-- Is a shift wrong, by the reference's worth? -/
def wrongV (p : Pt) (n : Int) : Bool :=
  (decide (n + 1 > 1) || decide (wv s p.at_ p.en ≤ wv s p.fr p.to_)) ||
    (if kd = 2 then decide (wv s p.fr p.to_ = 0) || (decide (W = 0) || decide (H = 0)) else if kd = 3 then decide (p.star < 0) else true)
def badSignV : List Pt → Int → Option Int
  | [], _ => none
  | p :: ps, n => if p.sign < 0 then badSignV ps n else if wrongV s kd W H p n = true then some p.sign else badSignV ps (n + 1)
theorem shift_l (hs : s.size ≤ 1048576) (hg : ∀ p ∈ qs, Go.Proofs.Ytmcidodpnhkdfaa.RefWalk.Good s p) (hl : qs.length ≤ 2) : ∀ (d k i n : Nat), i + d = qs.length → 2 * d + s.size + 5 ≤ k → n ≤ i →
    vivariumref04_shift.l0 k s kd (qs.map toR) W H (n : Int) (i : Int) = match badSignV s kd W H (qs.drop i) (n : Int) with
      | some a => some (a, true)
      | none => some (0, false) := by
  intro d
  induction d with
  | zero =>
    intro k i n h1 h2 h3
    obtain ⟨k, rfl⟩ : ∃ m, k = m + 1 := ⟨k - 1, by omega⟩
    rw [List.drop_eq_nil_of_le (by omega)]
    simp only [vivariumref04_shift.l0, badSignV, List.length_map]
    rw [if_neg (show ¬ (i : Int) < (qs.length : Int) by omega)]
  | succ d ih =>
    intro k i n h1 h2 h3
    obtain ⟨k, rfl⟩ : ∃ m, k = m + 1 + 1 := ⟨k - 2, by omega⟩
    obtain ⟨p, hp, hm, hd⟩ := cons_at qs i (by omega)
    have g := hg p hm
    have g1 := g.o1
    have g2 := g.o2
    have g3 := g.o3
    have g4 := g.o4
    rw [hd]
    rw [vivariumref04_shift.l0]
    simp only [badSignV, List.length_map]
    rw [if_pos (show (i : Int) < (qs.length : Int) by omega), if_pos (show (0 : Int) ≤ (i : Int) by omega), rdR qs i p hp]
    dsimp only
    rw [wrap_i i (by omega), wrap_i n (by omega)]
    by_cases c : p.sign < 0
    · rw [if_pos c, if_pos c]
      exact ih (k + 1) (i + 1) n (by omega) (by omega) (by omega)
    · have hn := ih k (i + 1) (n + 1) (by omega) (by omega) (by omega)
      rw [← wrap_i i (by omega)] at hn
      rw [if_neg c, if_neg c, if_pos (show (0 : Int) ≤ (p.fr : Int) by omega), if_pos (show (p.fr : Int) ≤ (p.to_ : Int) by omega), if_pos (show (p.to_ : Int) ≤ (s.size : Int) by omega)]
      simp only [Int.toNat_natCast]
      rw [worth_f s hs (k + 1) (by omega) p.fr p.to_ g3 g4]
      simp only [Option.bind_some]
      rw [if_pos (show (0 : Int) ≤ (p.at_ : Int) by omega), if_pos (show (p.at_ : Int) ≤ (p.en : Int) by omega), if_pos (show (p.en : Int) ≤ (s.size : Int) by omega), worth_f s hs (k + 1) (by omega) p.at_ p.en g1 g2]
      simp only [Option.bind_some]
      have key : ∀ b : Bool, b = (decide (kd ≠ 2 ∧ kd ≠ 3) || (decide (kd = 3 ∧ p.star < 0) || (decide (wv s p.fr p.to_ ≥ wv s p.at_ p.en) || decide (n + 1 = 2)))) →
          vivariumref04_shift.j1 (k + 1) s kd (qs.map toR) W H ((n + 1 : Nat) : Int) (i : Int) (wv s p.fr p.to_) b (p.at_ : Int) (p.en : Int) p.star p.sign (p.fr : Int) (p.to_ : Int) =
          match (if wrongV s kd W H p (n : Int) = true then some p.sign else badSignV s kd W H (qs.drop (i + 1)) ((n : Int) + 1)) with
            | some a => some (a, true)
            | none => some (0, false) := by
        intro b hb
        simp only [vivariumref04_shift.j1]
        have hw : wrongV s kd W H p (n : Int) = (b || decide (kd = 2 ∧ (wv s p.fr p.to_ = 0 ∨ W = 0 ∨ H = 0))) := by
          rw [hb]
          unfold wrongV
          rw [Bool.eq_iff_iff]
          by_cases k2 : kd = 2
          · simp [k2]; omega
          · by_cases k3 : kd = 3
            · simp [k3]; omega
            · simp [k2, k3]
        rw [hw]
        cases b with
        | true => simp
        | false =>
          simp only [Bool.false_eq_true, if_false, Bool.false_or, decide_eq_true_eq]
          by_cases k2 : kd = 2
          · rw [if_pos k2]
            by_cases e1 : wv s p.fr p.to_ = 0
            · rw [if_pos e1, if_pos ⟨k2, .inl e1⟩]
            · by_cases e2 : W = 0
              · rw [if_neg e1, if_pos e2, if_pos ⟨k2, .inr (.inl e2)⟩]
              · by_cases e3 : H = 0
                · rw [if_neg e1, if_neg e2, if_pos e3, if_pos ⟨k2, .inr (.inr e3)⟩]
                · rw [if_neg e1, if_neg e2, if_neg e3, if_neg (by rintro ⟨_, h | h | h⟩ <;> contradiction)]
                  exact hn
          · rw [if_neg k2, if_neg (fun h => k2 h.1)]
            exact hn
      have key2 := key
      by_cases k2 : kd = 2
      · rw [if_pos k2, if_neg (show ¬ kd = 3 by omega)]
        by_cases e1 : wv s p.fr p.to_ ≥ wv s p.at_ p.en
        · rw [if_pos e1]; exact key true (by simp [e1])
        · rw [if_neg e1]; exact key _ (by rw [Bool.eq_iff_iff]; simp [k2]; omega)
      · rw [if_neg k2]
        by_cases k3 : kd = 3
        · rw [if_pos k3]
          by_cases e0 : p.star < 0
          · rw [if_pos e0]; exact key true (by simp [k3, e0])
          · rw [if_neg e0]
            by_cases e1 : wv s p.fr p.to_ ≥ wv s p.at_ p.en
            · rw [if_pos e1]; exact key true (by simp [e1])
            · rw [if_neg e1]; exact key _ (by rw [Bool.eq_iff_iff]; simp [k3]; omega)
        · rw [if_neg k3]
          exact key true (by simp [k2, k3])
end
end Go.Proofs.Ytmcidodpnhkdfaa.RefPlain
