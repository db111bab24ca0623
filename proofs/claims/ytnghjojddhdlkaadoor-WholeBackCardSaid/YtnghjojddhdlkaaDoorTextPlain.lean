/- Plain laws for WholeTexts: what the program and the reference read out of a text, and the text that the reference writes. -/
import Derived.Test.YtnghjojddhdlkaaDoorPTextsx1
import Derived.Test.YtnghjojddhdlkaaDoorPTextsx2
import Derived.Test.YtnghjojddhdlkaaDoorSumsPlain
import Derived.Test.YtnghjojddhdlkaaDoorShelf
namespace Go.Proofs.YtnghjojddhdlkaaDoor.TextPlain
open Go.RowKit Go.Proofs.YtnghjojddhdlkaaDoorW.PrintWords Go.Proofs.YtnghjojddhdlkaaDoor.Math Go.Proofs.YtnghjojddhdlkaaDoor.SumsPlain
set_option linter.unusedVariables false
set_option linter.unusedSimpArgs false

/-- The number that the first n digits say. -/
def valTo (f : Nat → Int) : Nat → Int
  | 0 => 0
  | n + 1 => 10 * valTo f n + f n
theorem valTo_nonneg (f : Nat → Int) (n : Nat) (h : ∀ j, j < n → 0 ≤ f j) : 0 ≤ valTo f n := by
  induction n with
  | zero => exact Int.le_refl _
  | succ n ih =>
    have := ih (fun j hj => h j (by omega))
    have := h n (by omega)
    simp only [valTo]; omega
theorem valTo_mono (f : Nat → Int) (i n : Nat) (hi : i ≤ n) (h : ∀ j, j < n → 0 ≤ f j) : valTo f i ≤ valTo f n := by
  induction n with
  | zero => obtain rfl : i = 0 := by omega
            exact Int.le_refl _
  | succ n ih =>
    by_cases e : i = n + 1
    · subst e; exact Int.le_refl _
    · have h1 := ih (by omega) (fun j hj => h j (by omega))
      have h2 := valTo_nonneg f n (fun j hj => h j (by omega))
      have := h n (by omega)
      simp only [valTo]; omega

/-- What a text of digits comes to. -/
def finP (b : Bool) (V : Int) : Int × Int :=
  if V > 9223372036854775808 then (0, 11) else if b = true then (-V, 0) else if V = 9223372036854775808 then (0, 11) else (V, 0)

/-! ### The program -/
theorem mulI (k : Nat) (hk : 0 < k) (x : Int) (h0 : -9223372036854775808 ≤ x) (h1 : x ≤ 9223372036854775807) : PTexts.whole_Mul_int.f k x 10 = some (mulR 9223372036854775808 x 10) := by
  obtain ⟨k, rfl⟩ : ∃ m, k = m + 1 := ⟨k - 1, by omega⟩
  exact mul_of wr64 (by omega) x 10 h0 (by omega) (by omega) (by omega) PTexts.whole_Mul_int.j0 (fun _ _ _ _ => by rw [PTexts.whole_Mul_int.j0]) k
theorem addI (x y : Int) (h0 : -9223372036854775808 ≤ x) (h1 : x ≤ 9223372036854775807) (y0 : -9223372036854775808 ≤ y) (y1 : y ≤ 9223372036854775807) : PTexts.whole_Add_int.f x y = some (addR 9223372036854775808 x y) :=
  add_of wr64 (by omega) x y h0 (by omega) y0 (by omega)
theorem w64_in {x : Int} (h0 : -9223372036854775808 ≤ x) (h1 : x < 9223372036854775808) : wrap64 x = x := by unfold wrap64; omega

theorem prog_l0_good (D : ByteArray) (b : Bool) (hD : D.size ≤ 1048576) : ∀ (d i k : Nat), i + d = D.size → d < k → (∀ j, i ≤ j → j < D.size → 48 ≤ bt D j ∧ bt D j ≤ 57) →
    ∃ m, k = m + d + 1 ∧ PTexts.whole_Parse.l0 k D b (D.size : Int) (i : Int) = PTexts.whole_Parse.l1 m D b 0 (D.size : Int) 0 := by
  intro d
  induction d with
  | zero =>
    intro i k hi hk _
    obtain ⟨k, rfl⟩ : ∃ m, k = m + 1 := ⟨k - 1, by omega⟩
    exact ⟨k, by omega, by simp only [PTexts.whole_Parse.l0]; rw [if_neg (by omega)]⟩
  | succ d ih =>
    intro i k hi hk h
    obtain ⟨k, rfl⟩ : ∃ m, k = m + 1 := ⟨k - 1, by omega⟩
    obtain ⟨h1, h2⟩ := h i (by omega) (by omega)
    obtain ⟨m, hm, hr⟩ := ih (i + 1) k (by omega) (by omega) (fun j hj => h j (by omega))
    refine ⟨m, by omega, ?_⟩
    simp only [PTexts.whole_Parse.l0]
    rw [if_pos (by omega), if_pos (by omega), if_pos (by omega), if_neg (by omega), if_neg (by omega), w64_in (by omega) (by omega)]
    exact hr
theorem prog_l0_bad (D : ByteArray) (b : Bool) (hD : D.size ≤ 1048576) : ∀ (d i k : Nat), i + d = D.size → d < k → (∃ j, i ≤ j ∧ j < D.size ∧ ¬ (48 ≤ bt D j ∧ bt D j ≤ 57)) →
    PTexts.whole_Parse.l0 k D b (D.size : Int) (i : Int) = some (0, 10) := by
  intro d
  induction d with
  | zero =>
    intro i k hi hk ⟨j, h1, h2, _⟩
    omega
  | succ d ih =>
    intro i k hi hk h
    obtain ⟨k, rfl⟩ : ∃ m, k = m + 1 := ⟨k - 1, by omega⟩
    simp only [PTexts.whole_Parse.l0]
    rw [if_pos (by omega), if_pos (by omega), if_pos (by omega)]
    by_cases c1 : bt D i < 48
    · rw [if_pos c1]
    · rw [if_neg c1]
      by_cases c2 : bt D i > 57
      · rw [if_pos c2]
      · rw [if_neg c2, w64_in (by omega) (by omega)]
        obtain ⟨j, h1, h2, h3⟩ := h
        exact ih (i + 1) k (by omega) (by omega) ⟨j, by
          by_cases e : j = i
          · subst e; exact absurd ⟨by omega, by omega⟩ h3
          · omega, h2, h3⟩
theorem prog_l1 (D : ByteArray) (b : Bool) (hD : D.size ≤ 1048576) (h : ∀ j, j < D.size → 48 ≤ bt D j ∧ bt D j ≤ 57) : ∀ (d i k : Nat), i + d = D.size → d + 1 < k → valTo (fun j => bt D j - 48) i ≤ 9223372036854775808 →
    PTexts.whole_Parse.l1 k D b (-(valTo (fun j => bt D j - 48) i)) (D.size : Int) (i : Int) = some (finP b (valTo (fun j => bt D j - 48) D.size)) := by
  intro d
  induction d with
  | zero =>
    intro i k hi hk hv
    obtain ⟨k, rfl⟩ : ∃ m, k = m + 1 := ⟨k - 1, by omega⟩
    obtain rfl : i = D.size := by omega
    have hn := valTo_nonneg (fun j => bt D j - 48) D.size (fun j hj => by have := (h j hj).1; omega)
    generalize valTo (fun j => bt D j - 48) D.size = V at *
    simp only [PTexts.whole_Parse.l1]
    rw [if_neg (show ¬ (D.size : Int) < (D.size : Int) by omega)]
    unfold finP
    rw [if_neg (show ¬ V > 9223372036854775808 by omega)]
    by_cases c : b = true
    · rw [if_pos c, if_pos c]
    · rw [if_neg c, if_neg c]
      by_cases c2 : V = 9223372036854775808
      · subst c2; decide +kernel
      · rw [if_neg c2]
        by_cases c3 : V = 0
        · subst c3; decide +kernel
        · rw [if_neg (show ¬ -V = wrap64 (- -V) by unfold wrap64; omega), show wrap64 (- -V) = V by unfold wrap64; omega]
  | succ d ih =>
    intro i k hi hk hv
    obtain ⟨k, rfl⟩ : ∃ m, k = m + 1 := ⟨k - 1, by omega⟩
    obtain ⟨h1, h2⟩ := h i (by omega)
    have hn := valTo_nonneg (fun j => bt D j - 48) i (fun j hj => by have := (h j (by omega)).1; omega)
    have hmono := valTo_mono (fun j => bt D j - 48) (i + 1) D.size (by omega) (fun j hj => by have := (h j hj).1; omega)
    have hs : valTo (fun j => bt D j - 48) (i + 1) = 10 * valTo (fun j => bt D j - 48) i + (bt D i - 48) := rfl
    have ih' := ih (i + 1) k (by omega) (by omega)
    rw [hs] at ih' hmono
    clear hs
    generalize valTo (fun j => bt D j - 48) i = v at *
    simp only [PTexts.whole_Parse.l1]
    rw [if_pos (show (i : Int) < (D.size : Int) by omega), mulI k (by omega) _ (by omega) (by omega)]
    simp only [Option.bind_some]
    unfold mulR
    by_cases c1 : -9223372036854775808 ≤ -v * 10 ∧ -v * 10 < 9223372036854775808
    · rw [if_pos c1]
      dsimp only
      rw [if_pos rfl, if_pos (show (0 : Int) ≤ (i : Int) by omega), if_pos (show (i : Int) < (D.size : Int) by omega), show -((bt D (i : Int) - 48) % 256) = -(bt D (i : Int) - 48) by omega, addI _ _ (by omega) (by omega) (by omega) (by omega)]
      simp only [Option.bind_some]
      unfold addR
      by_cases c2 : -9223372036854775808 ≤ -v * 10 + -(bt D (i : Int) - 48) ∧ -v * 10 + -(bt D (i : Int) - 48) < 9223372036854775808
      · rw [if_pos c2]
        dsimp only
        rw [if_pos rfl, w64_in (by omega) (by omega), show -v * 10 + -(bt D (i : Int) - 48) = -(10 * v + (bt D (i : Int) - 48)) by omega]
        exact ih' (by omega)
      · rw [if_neg c2]
        dsimp only
        rw [if_neg (by simp)]
        unfold finP
        rw [if_pos (by omega)]
    · rw [if_neg c1]
      dsimp only
      rw [if_neg (by simp)]
      unfold finP
      rw [if_pos (by omega)]

/-- What a text reads as. -/
def readR (s : ByteArray) : Int × Int :=
  if s.size > 1048576 then (0, 3) else
  let b : Bool := decide (0 < s.size ∧ bt s 0 = 45)
  let i : Nat := if b = true then 1 else 0
  if i = s.size then (0, 10) else
  if ∀ j, j < s.size - i → 48 ≤ bt s ((i + j : Nat) : Int) ∧ bt s ((i + j : Nat) : Int) ≤ 57 then finP b (valTo (fun j => bt s ((i + j : Nat) : Int) - 48) (s.size - i)) else (0, 10)

theorem nil_iff (s : ByteArray) : s.toList = [] ↔ s.size = 0 := by
  rw [ByteArray.toList_eq, ← List.length_eq_zero_iff, Array.length_toList, ByteArray.size_data]
theorem bt_extract (s : ByteArray) (j : Nat) (h : j < s.size - 1) : bt (s.extract 1 s.size) (j : Int) = bt s ((1 + j : Nat) : Int) := by
  have hs : (s.extract 1 s.size).size = s.size - 1 := by rw [ByteArray.size_extract]; omega
  unfold bt
  rw [dif_pos (by simp [hs]; omega), dif_pos (by simp; omega)]
  simp only [Int.toNat_natCast]
  rw [ByteArray.getElem_extract]
theorem prog_of (D : ByteArray) (b : Bool) (hD : D.size ≤ 1048576) (h0 : 0 < D.size) (k : Nat) (hk : 2 * D.size + 4 ≤ k) :
    PTexts.whole_Parse.j1 k D b = some (if ∀ j, j < D.size → 48 ≤ bt D (j : Int) ∧ bt D (j : Int) ≤ 57 then finP b (valTo (fun j => bt D j - 48) D.size) else (0, 10)) := by
  obtain ⟨k, rfl⟩ : ∃ m, k = m + 1 := ⟨k - 1, by omega⟩
  rw [PTexts.whole_Parse.j1, if_neg (by rw [nil_iff]; omega)]
  by_cases c : ∀ j, j < D.size → 48 ≤ bt D (j : Int) ∧ bt D (j : Int) ≤ 57
  · rw [if_pos c]
    obtain ⟨m, hm, hr⟩ := prog_l0_good D b hD D.size 0 k (by omega) (by omega) (fun j _ hj => c j hj)
    rw [show (0 : Int) = ((0 : Nat) : Int) from rfl, hr]
    have := prog_l1 D b hD c D.size 0 m (by omega) (by omega) (by simp [valTo])
    simpa [valTo] using this
  · rw [if_neg c]
    obtain ⟨j, hj⟩ := Classical.not_forall.1 c
    obtain ⟨h1, h2⟩ := Classical.not_imp.1 hj
    exact prog_l0_bad D b hD D.size 0 k (by omega) (by omega) ⟨j, by omega, h1, h2⟩
theorem prog_reads (s : ByteArray) (k : Nat) (hk : 2 * s.size + 6 ≤ k) : PTexts.whole_Parse.f k s = some (readR s) := by
  unfold PTexts.whole_Parse.f readR
  by_cases c0 : s.size > 1048576
  · rw [if_pos (by omega), if_pos c0]
  rw [if_neg (by omega), if_neg c0]
  obtain ⟨k, rfl⟩ : ∃ m, k = m + 1 := ⟨k - 1, by omega⟩
  by_cases c1 : s.size = 0
  · have e : s.toList = [] := (nil_iff s).2 c1
    rw [if_pos e, PTexts.whole_Parse.j0, if_neg (by simp)]
    obtain ⟨k, rfl⟩ : ∃ m, k = m + 1 := ⟨k - 1, by omega⟩
    rw [PTexts.whole_Parse.j1, if_pos e]
    simp [c1]
  · have e : ¬ s.toList = [] := by rw [nil_iff]; exact c1
    rw [if_neg e, if_pos (by omega), PTexts.whole_Parse.j0]
    by_cases c2 : bt s 0 = 45
    · have hb : decide (0 < s.size ∧ bt s 0 = 45) = true := decide_eq_true ⟨by omega, c2⟩
      have hb' : (bt s 0 == 45) = true := by simpa using c2
      rw [hb', if_pos rfl, if_pos (by omega)]
      simp only [hb, if_true]
      by_cases c3 : s.size = 1
      · rw [if_pos (by omega)]
        obtain ⟨k, rfl⟩ : ∃ m, k = m + 1 := ⟨k - 1, by omega⟩
        rw [PTexts.whole_Parse.j1, if_pos]
        rw [nil_iff, ByteArray.size_extract]; omega
      · rw [if_neg (by omega)]
        have hs : (s.extract 1 s.size).size = s.size - 1 := by rw [ByteArray.size_extract]; omega
        rw [prog_of _ _ (by omega) (by omega) k (by omega), hs]
        congr 1
        have e1 : (∀ j, j < s.size - 1 → 48 ≤ bt (s.extract 1 s.size) (j : Int) ∧ bt (s.extract 1 s.size) (j : Int) ≤ 57) ↔ (∀ j, j < s.size - 1 → 48 ≤ bt s ((1 + j : Nat) : Int) ∧ bt s ((1 + j : Nat) : Int) ≤ 57) :=
          ⟨fun h j hj => by rw [← bt_extract s j hj]; exact h j hj, fun h j hj => by rw [bt_extract s j hj]; exact h j hj⟩
        have e2 : ∀ n, n ≤ s.size - 1 → valTo (fun j => bt (s.extract 1 s.size) j - 48) n = valTo (fun j => bt s ((1 + j : Nat) : Int) - 48) n := by
          intro n
          induction n with
          | zero => intro _; rfl
          | succ n ih => intro hn; simp only [valTo]; rw [ih (by omega), bt_extract s n (by omega)]
        rw [e2 _ (Nat.le_refl _)]
        by_cases c4 : ∀ j, j < s.size - 1 → 48 ≤ bt s ((1 + j : Nat) : Int) ∧ bt s ((1 + j : Nat) : Int) ≤ 57
        · rw [if_pos (e1.2 c4), if_pos c4]
        · rw [if_neg (fun h => c4 (e1.1 h)), if_neg c4]
    · have hb : decide (0 < s.size ∧ bt s 0 = 45) = false := decide_eq_false (fun h => c2 h.2)
      have hb' : (bt s 0 == 45) = false := by simpa using c2
      rw [hb', if_neg (by simp)]
      simp only [hb, Bool.false_eq_true, if_false]
      rw [if_neg (by omega), prog_of _ _ (by omega) (by omega) k (by omega)]
      simp only [Nat.zero_add, Nat.sub_zero]

/-! ### The reference -/
theorem ref_l0_good (s : ByteArray) (hs : s.size ≤ 1048576) (i0 : Nat) : ∀ (d i k : Nat), i + d = s.size → d < k → (∀ j, i ≤ j → j < s.size → 48 ≤ bt s j ∧ bt s j ≤ 57) →
    ∃ m, k = m + d + 1 ∧ PTexts.vivariumref01_Parse.l0 k s (i0 : Int) (i : Int) = PTexts.vivariumref01_Parse.l1 m s (i0 : Int) 0 (i0 : Int) := by
  intro d
  induction d with
  | zero =>
    intro i k hi hk _
    obtain ⟨k, rfl⟩ : ∃ m, k = m + 1 := ⟨k - 1, by omega⟩
    exact ⟨k, by omega, by simp only [PTexts.vivariumref01_Parse.l0]; rw [if_neg (show ¬ (i : Int) < (s.size : Int) by omega)]⟩
  | succ d ih =>
    intro i k hi hk h
    obtain ⟨k, rfl⟩ : ∃ m, k = m + 1 := ⟨k - 1, by omega⟩
    obtain ⟨h1, h2⟩ := h i (by omega) (by omega)
    obtain ⟨m, hm, hr⟩ := ih (i + 1) k (by omega) (by omega) (fun j hj => h j (by omega))
    refine ⟨m, by omega, ?_⟩
    simp only [PTexts.vivariumref01_Parse.l0]
    rw [if_pos (show (i : Int) < (s.size : Int) by omega), if_pos (show (0 : Int) ≤ (i : Int) by omega), if_neg (show ¬ bt s (i : Int) < 48 by omega), if_neg (show ¬ bt s (i : Int) > 57 by omega), w64_in (by omega) (by omega)]
    exact hr
theorem ref_l0_bad (s : ByteArray) (hs : s.size ≤ 1048576) (i0 : Nat) : ∀ (d i k : Nat), i + d = s.size → d < k → (∃ j, i ≤ j ∧ j < s.size ∧ ¬ (48 ≤ bt s j ∧ bt s j ≤ 57)) →
    PTexts.vivariumref01_Parse.l0 k s (i0 : Int) (i : Int) = some (0, 10) := by
  intro d
  induction d with
  | zero =>
    intro i k hi hk ⟨j, h1, h2, _⟩
    omega
  | succ d ih =>
    intro i k hi hk h
    obtain ⟨k, rfl⟩ : ∃ m, k = m + 1 := ⟨k - 1, by omega⟩
    simp only [PTexts.vivariumref01_Parse.l0]
    rw [if_pos (show (i : Int) < (s.size : Int) by omega), if_pos (show (0 : Int) ≤ (i : Int) by omega)]
    by_cases c1 : bt s i < 48
    · rw [if_pos c1]
    · rw [if_neg c1]
      by_cases c2 : bt s i > 57
      · rw [if_pos c2]
      · rw [if_neg c2, w64_in (by omega) (by omega)]
        obtain ⟨j, h1, h2, h3⟩ := h
        exact ih (i + 1) k (by omega) (by omega) ⟨j, by
          by_cases e : j = i
          · subst e; exact absurd ⟨by omega, by omega⟩ h3
          · omega, h2, h3⟩
theorem signed_at (k : Nat) (hk : 0 < k) (n : Int) (b : Bool) (h0 : 0 ≤ n) (h1 : n ≤ 18446744073709551615) :
    PTexts.vivariumref01_signed.f k n b = some (if n > 9223372036854775808 then (0, false) else if b = true then (-n, true) else if n = 9223372036854775808 then (0, false) else (n, true)) := by
  obtain ⟨k, rfl⟩ : ∃ m, k = m + 1 := ⟨k - 1, by omega⟩
  unfold PTexts.vivariumref01_signed.f
  by_cases hs : b = true
  · rw [if_pos hs, PTexts.vivariumref01_signed.j0]
    by_cases hn : n > 0
    · rw [if_pos (by simpa using hn)]
      by_cases c : n > 9223372036854775808
      · rw [if_pos c, if_pos c]
      · rw [if_neg c, if_neg c, if_pos hs, u64_wrap]
        congr 2
        unfold wrap64; omega
    · rw [if_neg (by simpa using hn), if_neg (show ¬ n > 9223372036854775807 by omega), if_neg (show ¬ n > 9223372036854775808 by omega), if_pos hs]
      congr 2
      unfold wrap64; omega
  · rw [if_neg hs, PTexts.vivariumref01_signed.j0, if_neg (by simp), if_neg hs]
    by_cases c : n > 9223372036854775807
    · rw [if_pos c]
      by_cases c2 : n > 9223372036854775808
      · rw [if_pos c2]
      · rw [if_neg c2, if_pos (show n = 9223372036854775808 by omega)]
    · rw [if_neg c, if_neg (show ¬ n > 9223372036854775808 by omega), if_neg (show ¬ n = 9223372036854775808 by omega)]
      congr 2
      unfold wrap64; omega
theorem ref_l1 (s : ByteArray) (hs : s.size ≤ 1048576) (i0 : Nat) (hi0 : i0 ≤ 1) (h : ∀ j, j < s.size - i0 → 48 ≤ bt s ((i0 + j : Nat) : Int) ∧ bt s ((i0 + j : Nat) : Int) ≤ 57) :
    ∀ (d j k : Nat), i0 + j + d = s.size → d + 1 < k → valTo (fun j => bt s ((i0 + j : Nat) : Int) - 48) j ≤ 18446744073709551615 →
    PTexts.vivariumref01_Parse.l1 k s (i0 : Int) (valTo (fun j => bt s ((i0 + j : Nat) : Int) - 48) j) ((i0 + j : Nat) : Int) = some (finP (decide (i0 = 1)) (valTo (fun j => bt s ((i0 + j : Nat) : Int) - 48) (s.size - i0))) := by
  intro d
  induction d with
  | zero =>
    intro j k hi hk hv
    obtain ⟨k, rfl⟩ : ∃ m, k = m + 1 := ⟨k - 1, by omega⟩
    obtain rfl : j = s.size - i0 := by omega
    have hn := valTo_nonneg (fun j => bt s ((i0 + j : Nat) : Int) - 48) (s.size - i0) (fun j hj => by have := (h j hj).1; omega)
    generalize valTo (fun j => bt s ((i0 + j : Nat) : Int) - 48) (s.size - i0) = V at *
    simp only [PTexts.vivariumref01_Parse.l1]
    rw [if_neg (show ¬ ((i0 + (s.size - i0) : Nat) : Int) < (s.size : Int) by omega), signed_at k (by omega) V _ hn hv]
    have hb : ((i0 : Int) == 1) = decide (i0 = 1) := by
      by_cases e : i0 = 1
      · subst e; rfl
      · rw [decide_eq_false e]; simp; omega
    rw [hb]
    simp only [Option.bind_some]
    unfold finP
    by_cases c1 : V > 9223372036854775808
    · rw [if_pos c1, if_pos c1, if_neg (by simp)]
    · rw [if_neg c1, if_neg c1]
      by_cases c2 : decide (i0 = 1) = true
      · rw [if_pos c2, if_pos c2, if_pos rfl]
      · rw [if_neg c2, if_neg c2]
        by_cases c3 : V = 9223372036854775808
        · rw [if_pos c3, if_pos c3, if_neg (by simp)]
        · rw [if_neg c3, if_neg c3, if_pos rfl]
  | succ d ih =>
    intro j k hi hk hv
    obtain ⟨k, rfl⟩ : ∃ m, k = m + 1 := ⟨k - 1, by omega⟩
    obtain ⟨h1, h2⟩ := h j (by omega)
    have hn := valTo_nonneg (fun j => bt s ((i0 + j : Nat) : Int) - 48) j (fun q hq => by have := (h q (by omega)).1; omega)
    have hmono := valTo_mono (fun j => bt s ((i0 + j : Nat) : Int) - 48) (j + 1) (s.size - i0) (by omega) (fun q hq => by have := (h q hq).1; omega)
    have hst : valTo (fun j => bt s ((i0 + j : Nat) : Int) - 48) (j + 1) = 10 * valTo (fun j => bt s ((i0 + j : Nat) : Int) - 48) j + (bt s ((i0 + j : Nat) : Int) - 48) := rfl
    have ih' := ih (j + 1) k (by omega) (by omega)
    rw [hst] at ih' hmono
    clear hst
    generalize valTo (fun j => bt s ((i0 + j : Nat) : Int) - 48) j = v at *
    simp only [PTexts.vivariumref01_Parse.l1]
    rw [if_pos (show ((i0 + j : Nat) : Int) < (s.size : Int) by omega)]
    by_cases c1 : v > 1152921504606846976
    · rw [if_pos c1]
      unfold finP
      rw [if_pos (by omega)]
    · rw [if_neg c1, if_pos (show (0 : Int) ≤ ((i0 + j : Nat) : Int) by omega), w64_in (by omega) (by omega), u64_wrap, u64_wrap,
        show (10 * v % 18446744073709551616 + (bt s ((i0 + j : Nat) : Int) - 48) % 256) % 18446744073709551616 = 10 * v + (bt s ((i0 + j : Nat) : Int) - 48) by omega, show ((i0 + j : Nat) : Int) + 1 = ((i0 + (j + 1) : Nat) : Int) by omega]
      exact ih' (by omega)
theorem ref_reads (s : ByteArray) (k : Nat) (hk : 2 * s.size + 6 ≤ k) : PTexts.vivariumref01_Parse.f k s = some (readR s) := by
  unfold PTexts.vivariumref01_Parse.f readR
  by_cases c0 : s.size > 1048576
  · rw [if_pos (by omega), if_pos c0]
  rw [if_neg (by omega), if_neg c0]
  have key : ∀ (i0 : Nat), i0 ≤ 1 → (i0 = 1 → 0 < s.size) → ∀ q, 2 * s.size + 4 ≤ q → PTexts.vivariumref01_Parse.j1 q s (i0 : Int) = some (if i0 = s.size then (0, 10) else
      if ∀ j, j < s.size - i0 → 48 ≤ bt s ((i0 + j : Nat) : Int) ∧ bt s ((i0 + j : Nat) : Int) ≤ 57 then finP (decide (i0 = 1)) (valTo (fun j => bt s ((i0 + j : Nat) : Int) - 48) (s.size - i0)) else (0, 10)) := by
    intro i0 hi hp q hq
    obtain ⟨q, rfl⟩ : ∃ m, q = m + 1 := ⟨q - 1, by omega⟩
    rw [PTexts.vivariumref01_Parse.j1]
    by_cases c1 : i0 = s.size
    · rw [if_pos (by omega), if_pos c1]
    · rw [if_neg (by omega), if_neg c1]
      by_cases c2 : ∀ j, j < s.size - i0 → 48 ≤ bt s ((i0 + j : Nat) : Int) ∧ bt s ((i0 + j : Nat) : Int) ≤ 57
      · rw [if_pos c2]
        obtain ⟨m, hm, hr⟩ := ref_l0_good s (by omega) i0 (s.size - i0) i0 q (by omega) (by omega) (fun j h1 h2 => by
          have := c2 (j - i0) (by omega)
          rw [show i0 + (j - i0) = j by omega] at this
          exact this)
        rw [hr]
        exact ref_l1 s (by omega) i0 hi c2 (s.size - i0) 0 m (by omega) (by omega) (by simp [valTo])
      · rw [if_neg c2]
        obtain ⟨j, hj⟩ := Classical.not_forall.1 c2
        obtain ⟨h1, h2⟩ := Classical.not_imp.1 hj
        exact ref_l0_bad s (by omega) i0 (s.size - i0) i0 q (by omega) (by omega) ⟨i0 + j, by omega, by omega, h2⟩
  obtain ⟨k, rfl⟩ : ∃ m, k = m + 1 := ⟨k - 1, by omega⟩
  by_cases c2 : 0 < s.size ∧ bt s 0 = 45
  · have hb : decide (0 < s.size ∧ bt s 0 = 45) = true := decide_eq_true c2
    rw [if_pos (by omega), PTexts.vivariumref01_Parse.j0, if_pos (by simpa using c2.2)]
    simp only [hb, if_true]
    rw [show wrap64 (0 + 1) = ((1 : Nat) : Int) by unfold wrap64; omega, key 1 (by omega) (fun _ => c2.1) k (by omega)]
    rfl
  · have hb : decide (0 < s.size ∧ bt s 0 = 45) = false := decide_eq_false c2
    simp only [hb, Bool.false_eq_true, if_false]
    have e : PTexts.vivariumref01_Parse.j1 k s 0 = _ := key 0 (by omega) (by omega) k (by omega)
    by_cases c3 : (0 : Int) < (s.size : Int)
    · rw [if_pos c3, PTexts.vivariumref01_Parse.j0, if_neg (by have := fun h => c2 ⟨by omega, h⟩; simpa using this)]
      exact e
    · rw [if_neg c3, PTexts.vivariumref01_Parse.j0, if_neg (by simp)]
      exact e

/-! ### The reference's text -/
theorem size_at (a : Int) (a0 : -9223372036854775808 ≤ a) (a1 : a ≤ 9223372036854775807) : PTexts.vivariumref01_size.f a = some (a.natAbs : Int) := by
  unfold PTexts.vivariumref01_size.f
  split
  · congr 1; rw [u64_wrap, u64_wrap]; unfold wrap64; omega
  · congr 1; rw [u64_wrap]; omega
theorem str_append (a b : List UInt8) : (⟨a.toArray⟩ : ByteArray) ++ (⟨b.toArray⟩ : ByteArray) = ⟨(a ++ b).toArray⟩ := by
  apply ByteArray.ext
  simp
theorem one_digit (x : Int) (h0 : 0 ≤ x) (h1 : x ≤ 18446744073709551615) : strOfNums [(IntKind.u64.wrap (48 + (Int.tmod x 10))) % 256] = ⟨[UInt8.ofNat (48 + x.toNat % 10)].toArray⟩ := by
  have e : ((IntKind.u64.wrap (48 + (Int.tmod x 10))) % 256).toNat = 48 + x.toNat % 10 := by
    rw [u64_wrap, Int.tmod_eq_emod_of_nonneg h0]; omega
  simp [strOfNums, e]
theorem dec_big {u : Nat} (h : ¬ u < 10) : Lib.decDigits u = Lib.decDigits (u / 10) ++ [UInt8.ofNat (48 + u % 10)] := by rw [Lib.decDigits, dif_neg h]
theorem dec_small {u : Nat} (h : u < 10) : Lib.decDigits u = [UInt8.ofNat (48 + u)] := by rw [Lib.decDigits, dif_pos h]
def endText (n : Int) (l : List UInt8) : ByteArray := if n < 0 then ⟨(45 :: l).toArray⟩ else ⟨l.toArray⟩
theorem text_end (n : Int) (l : List UInt8) (hl : l ≠ []) (hs : l.length ≤ 1000) (k : Nat) : PTexts.vivariumref01_Text.l0 (k + 1) n 0 ⟨l.toArray⟩ = some (endText n l) := by
  simp only [PTexts.vivariumref01_Text.l0]
  rw [if_neg (by omega), if_neg (by rw [ByteArray.toList_eq]; simpa using hl)]
  unfold endText
  by_cases h : n < 0
  · rw [if_pos h, if_pos h, if_pos (by simp [← ByteArray.size_data]; omega)]
    rw [str_append [45] l]; rfl
  · rw [if_neg h, if_neg h]
theorem text_loop (n : Int) : ∀ (m u : Nat) (l : List UInt8) (k : Nat), 0 < u → u ≤ 18446744073709551615 → u < 10 ^ m → l.length + m ≤ 100 → m + 1 < k →
    PTexts.vivariumref01_Text.l0 k n (u : Int) ⟨l.toArray⟩ = some (endText n (Lib.decDigits u ++ l)) := by
  intro m
  induction m with
  | zero => intro u l k h0 hb h1; simp at h1; omega
  | succ m ih =>
    intro u l k h0 hb h1 hl hk
    obtain ⟨k, rfl⟩ : ∃ q, k = q + 1 := ⟨k - 1, by omega⟩
    have hstep : ∀ q, PTexts.vivariumref01_Text.l0 (q + 1) n (u : Int) ⟨l.toArray⟩ = PTexts.vivariumref01_Text.l0 q n ((u / 10 : Nat) : Int) ⟨(UInt8.ofNat (48 + u % 10) :: l).toArray⟩ := by
      intro q
      simp only [PTexts.vivariumref01_Text.l0]
      rw [if_pos (by omega)]
      simp only [Option.bind_some]
      rw [one_digit _ (by omega) (by omega), str_append, if_pos (by simp [← ByteArray.size_data]; omega), u64_wrap, Int.tdiv_eq_ediv_of_nonneg (by omega), Int.toNat_natCast]
      congr 1
      omega
    rw [hstep]
    by_cases h10 : u < 10
    · obtain ⟨k, rfl⟩ : ∃ q, k = q + 1 := ⟨k - 1, by omega⟩
      rw [show u / 10 = 0 by omega]
      rw [show ((0 : Nat) : Int) = 0 from rfl, text_end n _ (by simp) (by simp; omega), dec_small h10, Nat.mod_eq_of_lt h10]
      rfl
    · rw [ih (u / 10) _ k (by omega) (by omega) (by rw [Nat.pow_succ] at h1; omega) (by simp; omega) (by omega), dec_big h10]
      simp
theorem ref_text (n : Int) (h0 : -9223372036854775808 ≤ n) (h1 : n ≤ 9223372036854775807) : PTexts.vivariumref01_Text.f 30 n = some ⟨(Lib.itoa n).toArray⟩ := by
  unfold PTexts.vivariumref01_Text.f
  rw [size_at n h0 h1]
  simp only [Option.bind_some]
  have ef : ∀ l, endText n l = ⟨(if n < 0 then 45 :: l else l).toArray⟩ := fun l => by unfold endText; split <;> rfl
  have ei : Lib.itoa n = (if n < 0 then 45 :: Lib.decDigits n.natAbs else Lib.decDigits n.natAbs) := by
    unfold Lib.itoa
    by_cases h : n < 0
    · rw [if_pos h, if_pos h]
    · rw [if_neg h, if_neg h, show n.toNat = n.natAbs by omega]
  by_cases h : n = 0
  · subst h
    have hstep : ∀ q, PTexts.vivariumref01_Text.l0 (q + 1) 0 0 ⟨([] : List UInt8).toArray⟩ = PTexts.vivariumref01_Text.l0 q 0 0 ⟨[48].toArray⟩ := by
      intro q
      simp only [PTexts.vivariumref01_Text.l0]
      rw [if_neg (show ¬ (0 : Int) > 0 by omega), if_pos (by rw [ByteArray.toList_eq])]
      simp only [Option.bind_some]
      rw [one_digit 0 (by omega) (by omega), str_append, if_pos (by simp [← ByteArray.size_data]), u64_wrap]
      rfl
    have hd : Lib.decDigits (Int.natAbs 0) = [48] := by simp [Lib.decDigits]
    rw [show ((Int.natAbs 0 : Nat) : Int) = 0 from rfl, show (⟨#[]⟩ : ByteArray) = ⟨([] : List UInt8).toArray⟩ from rfl, hstep 29, text_end 0 _ (by simp) (by simp) 28, ef, ei, hd]
  · have := text_loop n 20 n.natAbs [] 30 (by omega) (by omega) (by
      have : (10 : Nat) ^ 20 = 100000000000000000000 := by decide
      omega) (by simp) (by omega)
    rw [show (⟨#[]⟩ : ByteArray) = ⟨([] : List UInt8).toArray⟩ from rfl, this, ef, ei, List.append_nil]
end Go.Proofs.YtnghjojddhdlkaaDoor.TextPlain
