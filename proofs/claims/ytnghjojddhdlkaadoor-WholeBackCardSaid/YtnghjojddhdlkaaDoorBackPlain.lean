/- Plain laws for WholeBack: a number's text reads as the number; what reads as a number has the number's text, but for noughts ahead. -/
import Derived.Test.YtnghjojddhdlkaaDoorPlainWalk
namespace Go.Proofs.YtnghjojddhdlkaaDoor.BackPlain
open Go.RowKit Go.Proofs.YtnghjojddhdlkaaDoorW.PrintWords Go.Proofs.YtnghjojddhdlkaaDoor.TextPlain Go.Proofs.YtnghjojddhdlkaaDoor.PlainWalk
set_option linter.unusedVariables false
set_option linter.unusedSimpArgs false

theorem snoc_ind {P : List UInt8 → Prop} (h0 : P []) (h1 : ∀ l c, P l → P (l ++ [c])) (l : List UInt8) : P l := by
  have : ∀ r : List UInt8, P r.reverse := by
    intro r
    induction r with
    | nil => exact h0
    | cons c t ih => rw [List.reverse_cons]; exact h1 _ _ ih
  rw [← List.reverse_reverse l]; exact this _
/-- Digit j of a list of bytes. -/
def dg (l : List UInt8) (j : Nat) : Int := ((l.getD j 0).toNat : Int) - 48
theorem bt_list (D : ByteArray) (j : Nat) (h : j < D.size) : bt D (j : Int) = ((D.data.toList.getD j 0).toNat : Int) := by
  unfold bt
  rw [dif_pos (by simpa using h)]
  have h' : j < D.data.size := h
  simp only [Int.toNat_natCast]
  rw [List.getD_eq_getElem?_getD, Array.getElem?_toList, Array.getElem?_eq_getElem h']
  rfl
theorem valTo_congr (f g : Nat → Int) (n : Nat) (h : ∀ j, j < n → f j = g j) : valTo f n = valTo g n := by
  induction n with
  | zero => rfl
  | succ n ih => simp only [valTo]; rw [ih (fun j hj => h j (by omega)), h n (by omega)]
theorem valTo_shift (f : Nat → Int) (k m : Nat) (h : ∀ j, j < k → f j = 0) : valTo f (k + m) = valTo (fun j => f (k + j)) m := by
  induction m with
  | zero =>
    have : ∀ q, q ≤ k → valTo f q = 0 := by
      intro q
      induction q with
      | zero => intro _; rfl
      | succ q ih => intro hq; simp only [valTo]; rw [ih (by omega), h q (by omega)]; rfl
    simpa [valTo] using this k (Nat.le_refl _)
  | succ m ih => rw [show k + (m + 1) = (k + m) + 1 from rfl]; simp only [valTo]; rw [ih]
def vl (l : List UInt8) : Int := valTo (dg l) l.length
theorem vl_snoc (l : List UInt8) (c : UInt8) : vl (l ++ [c]) = 10 * vl l + ((c.toNat : Int) - 48) := by
  unfold vl
  rw [List.length_append, show l.length + [c].length = l.length + 1 from rfl]
  simp only [valTo]
  rw [valTo_congr (dg (l ++ [c])) (dg l) l.length (fun j hj => by unfold dg; rw [List.getD_eq_getElem?_getD, List.getD_eq_getElem?_getD, List.getElem?_append_left hj])]
  unfold dg
  rw [List.getD_eq_getElem?_getD, List.getElem?_append_right (Nat.le_refl _)]
  simp
def Digits (l : List UInt8) : Prop := ∀ c ∈ l, 48 ≤ c.toNat ∧ c.toNat ≤ 57
theorem dec_digits (u : Nat) : Digits (Lib.decDigits u) ∧ Lib.decDigits u ≠ [] ∧ vl (Lib.decDigits u) = u := by
  induction u using Nat.strongRecOn with
  | _ u ih =>
    by_cases h : u < 10
    · rw [dec_small h]
      have e : (UInt8.ofNat (48 + u)).toNat = 48 + u := by simp; omega
      refine ⟨fun c hc => ?_, by simp, ?_⟩
      · obtain rfl := List.mem_singleton.1 hc; omega
      · have := vl_snoc [] (UInt8.ofNat (48 + u))
        rw [List.nil_append] at this
        rw [this, e, show vl [] = 0 from rfl]; omega
    · rw [dec_big h]
      obtain ⟨h1, h2, h3⟩ := ih (u / 10) (by omega)
      have e : (UInt8.ofNat (48 + u % 10)).toNat = 48 + u % 10 := by simp; omega
      refine ⟨fun c hc => ?_, by simp, ?_⟩
      · rcases List.mem_append.1 hc with hc | hc
        · exact h1 c hc
        · obtain rfl := List.mem_singleton.1 hc; omega
      · rw [vl_snoc, h3, e]; omega
theorem dec_length (m : Nat) : ∀ u, u < 10 ^ (m + 1) → (Lib.decDigits u).length ≤ m + 1 := by
  induction m with
  | zero => intro u h; rw [dec_small (by simpa using h)]; simp
  | succ m ih =>
    intro u h
    by_cases h1 : u < 10
    · rw [dec_small h1]; simp
    · rw [dec_big h1, List.length_append]
      have := ih (u / 10) (by rw [Nat.pow_succ] at h; omega)
      simpa using this
theorem val_lt (l : List UInt8) (h : Digits l) : 0 ≤ vl l ∧ vl l < (10 ^ l.length : Nat) := by
  induction l using snoc_ind with
  | h0 => exact ⟨by decide, by decide⟩
  | h1 l c ih =>
    have h1 := ih (fun d hd => h d (List.mem_append.2 (.inl hd)))
    have h2 := h c (List.mem_append.2 (.inr (List.mem_singleton.2 rfl)))
    rw [vl_snoc, List.length_append, show l.length + [c].length = l.length + 1 from rfl, Nat.pow_succ]
    omega
/-- A text of digits with no nought ahead is its number's own. -/
theorem dec_of (l : List UInt8) (h : Digits l) (hne : l ≠ []) (hh : l.length = 1 ∨ l.head? ≠ some 48) : Lib.decDigits (vl l).toNat = l := by
  induction l using snoc_ind with
  | h0 => exact absurd rfl hne
  | h1 l c ih =>
    have h2 := h c (List.mem_append.2 (.inr (List.mem_singleton.2 rfl)))
    have hl : Digits l := fun d hd => h d (List.mem_append.2 (.inl hd))
    have hv := val_lt l hl
    rw [vl_snoc]
    have ec : UInt8.ofNat c.toNat = c := by simp
    by_cases e : l = []
    · subst e
      rw [show vl [] = 0 from rfl, dec_small (by omega), show 48 + (10 * 0 + ((c.toNat : Int) - 48)).toNat = c.toNat by omega, ec]
      rfl
    · have hh' : l.head? ≠ some 48 := by
        rcases hh with hh | hh
        · have : l.length ≠ 0 := fun z => e (List.length_eq_zero_iff.1 z)
          rw [List.length_append, show [c].length = 1 from rfl] at hh
          exact absurd hh (by omega)
        · obtain ⟨x, t, rfl⟩ := List.exists_cons_of_ne_nil e
          simpa using hh
      have ih' := ih hl e (.inr hh')
      have hpos : vl l ≠ 0 := by
        intro z
        rw [z, dec_small (by decide)] at ih'
        rw [← ih'] at hh'
        exact hh' (by simp)
      rw [dec_big (by omega), show (10 * vl l + ((c.toNat : Int) - 48)).toNat / 10 = (vl l).toNat by omega, ih', show 48 + (10 * vl l + ((c.toNat : Int) - 48)).toNat % 10 = c.toNat by omega, ec]

/-! ### There: a number's text is read as the number -/
theorem reads_list (l : List UInt8) (i : Nat) (hi : i ≤ 1) (hs : l.length ≤ 1048576) (hb : decide (0 < (⟨l.toArray⟩ : ByteArray).size ∧ bt ⟨l.toArray⟩ 0 = 45) = decide (i = 1)) (hne : l.drop i ≠ []) (hd : Digits (l.drop i)) :
    readR ⟨l.toArray⟩ = finP (decide (i = 1)) (vl (l.drop i)) := by
  have hsz : (⟨l.toArray⟩ : ByteArray).size = l.length := by simp [← ByteArray.size_data]
  have hlen : i < l.length := by
    have : (l.drop i).length ≠ 0 := fun z => hne (List.length_eq_zero_iff.1 z)
    rw [List.length_drop] at this; omega
  have hbt : ∀ j, j < l.length - i → bt ⟨l.toArray⟩ ((i + j : Nat) : Int) = (((l.drop i).getD j 0).toNat : Int) := by
    intro j hj
    rw [bt_list _ _ (by rw [hsz]; omega)]
    simp [List.getD_eq_getElem?_getD, List.getElem?_drop]
  unfold readR
  rw [hsz] at hb ⊢
  have hii : (if decide (i = 1) = true then 1 else 0) = i := by
    by_cases e : i = 1
    · subst e; rfl
    · rw [decide_eq_false e]; simp; omega
  simp only [hb, hii]
  rw [if_neg (show ¬ l.length > 1048576 by omega), if_neg (by omega), if_pos]
  · congr 1
    unfold vl
    rw [List.length_drop]
    exact valTo_congr _ _ _ (fun j hj => by unfold dg; rw [hbt j hj])
  · intro j hj
    rw [hbt j hj]
    have hj' : j < (l.drop i).length := by rw [List.length_drop]; exact hj
    rw [List.getD_eq_getElem?_getD, List.getElem?_eq_getElem hj', Option.getD_some]
    have := hd _ (List.getElem_mem hj')
    omega
theorem bt_head (l : List UInt8) (c : UInt8) (h : l.head? = some c) : bt ⟨l.toArray⟩ 0 = (c.toNat : Int) := by
  cases l with
  | nil => simp at h
  | cons d t =>
    simp at h
    subst h
    have := bt_list ⟨(d :: t).toArray⟩ 0 (by simp [← ByteArray.size_data])
    simpa using this
theorem reads_itoa (n : Int) (h0 : -9223372036854775808 ≤ n) (h1 : n ≤ 9223372036854775807) : readR ⟨(Lib.itoa n).toArray⟩ = (n, 0) := by
  obtain ⟨d1, d2, d3⟩ := dec_digits n.natAbs
  have hlen := dec_length 19 n.natAbs (by
    have : (10 : Nat) ^ 20 = 100000000000000000000 := by decide
    omega)
  unfold Lib.itoa
  by_cases h : n < 0
  · rw [if_pos h, reads_list (45 :: Lib.decDigits n.natAbs) 1 (by omega) (by simp; omega) ?_ (by simpa using d2) (by simpa using d1)]
    · simp only [List.drop_one, List.tail_cons]
      rw [d3]
      unfold finP
      rw [if_neg (by omega), if_pos (by decide)]
      congr 1; omega
    · rw [bt_head _ 45 (by simp)]
      simp [← ByteArray.size_data]
  · rw [if_neg h, show n.toNat = n.natAbs by omega, reads_list (Lib.decDigits n.natAbs) 0 (by omega) (by omega) ?_ (by simpa using d2) (by simpa using d1)]
    · simp only [List.drop_zero]
      rw [d3]
      unfold finP
      rw [if_neg (by omega), if_neg (by decide), if_neg (by omega)]
      congr 1; omega
    · refine decide_eq_false (fun hh => ?_) |>.trans (by decide)
      obtain ⟨c, t, hc⟩ := List.exists_cons_of_ne_nil d2
      rw [hc, bt_head (c :: t) c rfl] at hh
      have := d1 c (by rw [hc]; simp)
      omega

/-! ### Back -/
theorem extract_list (D : ByteArray) (k : Nat) : (D.extract k D.size).data.toList = D.data.toList.drop k := by
  simp [ByteArray.data_extract]
  rw [List.take_of_length_le (by simp)]
theorem told_is (D : ByteArray) (sign : List UInt8) (hD : Digits D.data.toList) (h0 : 1 ≤ D.size) (r : ByteArray) (ht : PlainWalk.Told ⟨sign.toArray⟩ D r) :
    r.data.toList = (if vl D.data.toList = 0 then [] else sign) ++ Lib.decDigits (vl D.data.toList).toNat := by
  obtain ⟨k, hk, hz, hend, rfl⟩ := ht
  have hlen : D.data.toList.length = D.size := by simp
  have hdrop : Digits (D.data.toList.drop k) := fun c hc => hD c (List.mem_of_mem_drop hc)
  have hne : D.data.toList.drop k ≠ [] := by
    intro z
    have : (D.data.toList.drop k).length = 0 := by rw [z]; rfl
    rw [List.length_drop, hlen] at this; omega
  have hv : vl (D.data.toList.drop k) = vl D.data.toList := by
    unfold vl
    rw [List.length_drop, hlen]
    have := valTo_shift (dg D.data.toList) k (D.size - k) (fun j hj => by
      unfold dg
      have := hz j hj
      rw [bt_list D j (by omega)] at this
      omega)
    rw [show k + (D.size - k) = D.size by omega] at this
    rw [this]
    refine valTo_congr _ _ _ (fun j hj => ?_)
    unfold dg
    simp [List.getD_eq_getElem?_getD, List.getElem?_drop]
  have hdec := dec_of (D.data.toList.drop k) hdrop hne (by
    rcases hend with he | he
    · left; rw [List.length_drop, hlen]; omega
    · right
      intro hh
      apply he
      rw [bt_list D k (by omega)]
      rw [List.head?_drop] at hh
      rw [List.getD_eq_getElem?_getD, hh]; rfl)
  rw [hv] at hdec
  have hx : (D.extract k D.size).toList = D.data.toList.drop k := by rw [ByteArray.toList_eq, extract_list]
  rw [hx, ByteArray.data_append, Array.toList_append, extract_list, ← hdec]
  congr 1
  have hiff : (Lib.decDigits (vl D.data.toList).toNat = [48]) ↔ vl D.data.toList = 0 := by
    obtain ⟨_, _, e⟩ := dec_digits (vl D.data.toList).toNat
    have hp := (val_lt _ hD).1
    constructor
    · intro z
      rw [z] at e
      have : vl [48] = 0 := by decide
      omega
    · intro z
      rw [z]; simp [Lib.decDigits]
  by_cases c : vl D.data.toList = 0
  · rw [if_pos c, if_pos (hiff.2 c)]
  · rw [if_neg c, if_neg (fun z => c (hiff.1 z))]
end Go.Proofs.YtnghjojddhdlkaaDoor.BackPlain
