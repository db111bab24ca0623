/- TreeKeepses proved, the tied card of its second form: of every tree and every list of numbers: whether the tree keeps them, and the error, are the document's; the tree that was handed in and the list stay as they were. The library's table reads as its own text lays it (tied); what the arguments hold is bounded as the statement says. -/
import Derived.Test.YtbnonnogkgbpiaaDoorKKeepses5
section
namespace Go.Proofs.YtbnonnogkgbpiaaDoor.TreePlain
open Go Go.RowKit Go.Proofs.YtbnonnogkgbpiaaDoorW.PrintWords Go.Proofs.YtbnonnogkgbpiaaDoorW.PrintLast Go.Proofs.YtbnonnogkgbpiaaDoorW.PrintMore Go.Proofs.YtbnonnogkgbpiaaDoor.PT Go.Proofs.YtbnonnogkgbpiaaDoor.TreeText Go.Proofs.YtbnonnogkgbpiaaDoor.Forest
set_option linter.unusedVariables false
set_option linter.unusedSimpArgs false
def low (st : Nat) : Nat → Nat → List Int
  | 0, _ => []
  | n + 1, k => ((k % st : Nat) : Int) :: low st n (k / st)
theorem low_len (st : Nat) : ∀ n k, (low st n k).length = n
  | 0, _ => rfl
  | n + 1, k => by simp [low, low_len st n]
theorem low_in (st : Nat) (h : 1 ≤ st) : ∀ n k, ∀ v ∈ low st n k, 0 ≤ v ∧ v < st
  | 0, _, v, hv => by simp [low] at hv
  | n + 1, k, v, hv => by
    rcases List.mem_cons.1 hv with rfl | hv
    · have := Nat.mod_lt k h
      omega
    · exact low_in st h n _ v hv
theorem low_all (st : Nat) (h : 1 ≤ st) : ∀ xs : List Int, (∀ v ∈ xs, 0 ≤ v ∧ v < st) → ∃ k, k < st ^ xs.length ∧ low st xs.length k = xs
  | [], _ => ⟨0, by simp, rfl⟩
  | x :: xs, hx => by
    obtain ⟨k, hk, e⟩ := low_all st h xs (fun v hv => hx v (List.mem_cons_of_mem _ hv))
    have hx0 := hx x (List.mem_cons_self ..)
    obtain ⟨y, rfl⟩ : ∃ y : Nat, x = (y : Int) := ⟨x.toNat, by omega⟩
    have hy : y < st := by omega
    refine ⟨y + st * k, ?_, ?_⟩
    · rw [List.length_cons, Nat.pow_succ]
      have h1 : st * (k + 1) ≤ st * st ^ xs.length := Nat.mul_le_mul_left _ hk
      rw [Nat.mul_add, Nat.mul_one] at h1
      rw [Nat.mul_comm (st ^ xs.length)]
      omega
    · show (((y + st * k) % st : Nat) : Int) :: low st xs.length ((y + st * k) / st) = _
      rw [Nat.add_mul_mod_self_left, Nat.mod_eq_of_lt hy, Nat.add_mul_div_left _ _ h, Nat.div_eq_of_lt hy, Nat.zero_add, e]
def turn (p xs : List Int) : List Int := p.map fun q => rd xs q
def testP (l : List S49) (rt : Int) (p xs : List Int) : Bool := decide (downP l xs rt = downP l (turn p xs) rt)
theorem all_rows (st : Nat) (h : 1 ≤ st) (n : Nat) (T : List Int → Bool) : (∀ k, k < st ^ n → T (low st n k) = true) ↔ (∀ xs : List Int, xs.length = n → (∀ v ∈ xs, 0 ≤ v ∧ v < (st : Int)) → T xs = true) := by
  constructor
  · intro hk xs hl hx
    obtain ⟨k, hk1, e⟩ := low_all st h xs hx
    rw [hl] at hk1 e
    rw [← e]
    exact hk k hk1
  · intro hx k _
    exact hx _ (low_len st n k) (low_in st h n k)
theorem all_back (st : Nat) (h : 1 ≤ st) (n : Nat) (T : List Int → Bool) : (∀ k, k < st ^ n → T (low st n k).reverse = true) ↔ (∀ k, k < st ^ n → T (low st n k) = true) := by
  rw [all_rows st h n T, all_rows st h n (fun xs => T xs.reverse)]
  constructor
  · intro hx xs hl hv
    have := hx xs.reverse (by simp [hl]) (fun v hv' => hv v (List.mem_reverse.1 hv'))
    simpa using this
  · intro hx xs hl hv
    exact hx xs.reverse (by simp [hl]) (fun v hv' => hv v (List.mem_reverse.1 hv'))
section
variable {st n : Nat} {rt : Int} {l : List S49} {p : List Int} {lv : List Int}
theorem at_down (hL : Levels st l l.length lv) (hst : 1 ≤ st ∧ st ≤ 256) (hrt : 0 ≤ rt ∧ rt < l.length) (hn : rd lv rt = n) (hn16 : n ≤ 16) (xs : List Int) (hl : xs.length = n) (hx : ∀ v ∈ xs, 0 ≤ v ∧ v < (st : Int)) : (∃ k, tree_at.f k st n l rt xs = some (downP l xs rt)) ∧ (∃ k, vivariumref11_answer.f k st n l rt xs = some (downP l xs rt)) := by
  obtain ⟨⟨k1, hk1⟩, ⟨k2, hk2⟩⟩ := l0_at (st : Int) (n : Int) rt l lv hL (by omega) xs hx (by omega) xs.length 0 rt (by omega) hrt.1 hrt.2 (by omega)
  exact ⟨⟨k1, hk1⟩, ⟨k2, hk2⟩⟩
theorem turn_in (hp : ∀ q ∈ p, 0 ≤ q ∧ q < (n : Int)) {xs : List Int} (hl : xs.length = n) (hx : ∀ v ∈ xs, 0 ≤ v ∧ v < (st : Int)) : ∀ v ∈ turn p xs, 0 ≤ v ∧ v < (st : Int) := by
  intro v hv
  obtain ⟨q, hq, rfl⟩ := List.mem_map.1 hv
  have h := hp q hq
  obtain ⟨j, rfl⟩ : ∃ j : Nat, q = (j : Int) := ⟨q.toNat, by omega⟩
  rw [rd_nat (by omega)]
  exact hx _ (List.getElem_mem _)
theorem take_set_len (ys : List Int) (i : Nat) (v : Int) (hi : i < ys.length) : (ys.set i v).take (i + 1) = ys.take i ++ [v] := by
  rw [List.take_succ_eq_append_getElem (by simpa using hi), List.getElem_set_self, List.take_set, List.set_eq_of_length_le (by rw [List.length_take]; omega)]
theorem l1_keeps (hst : 1 ≤ st ∧ st ≤ 256) (hn : n ≤ 16) (K0 : Nat) (hK0 : K0 ≤ 1048576) (R : Bool × Int) (m k0 : Int) (x10 : List Int) (hgo : ∃ k, tree_Keeps.l2 k p (low st n K0) x10 m k0 p p.length 0 st n l rt = some R) :
    ∀ (d i : Nat) (x9 : List Int) (q : Nat), i + d = n → x9.length = n → x9.take i = (low st n K0).take i → (low st n K0).drop i = low st d q → q ≤ 1048576 → ∃ k, tree_Keeps.l1 k p x9 x10 q m k0 x9.length i st n l rt = some R := by
  intro d
  induction d with
  | zero =>
    intro i x9 q hi hl htake _ _
    obtain ⟨k, hk⟩ := hgo
    have e : x9 = low st n K0 := by
      rw [List.take_of_length_le (by omega), List.take_of_length_le (by rw [low_len]; omega)] at htake
      exact htake
    refine ⟨k + 1, ?_⟩
    rw [tree_Keeps.l1, if_neg (by omega), e]
    exact hk
  | succ d ih =>
    intro i x9 q hi hl htake hdrop hq
    have hd : low st (d + 1) q = ((q % st : Nat) : Int) :: low st d (q / st) := rfl
    rw [hd] at hdrop
    have hil : i < (low st n K0).length := by rw [low_len]; omega
    rw [List.drop_eq_getElem_cons hil] at hdrop
    injection hdrop with h1 h2
    have hmod := Nat.mod_lt q (show 0 < st by omega)
    have hdiv := Nat.div_le_self q st
    have hq2 : q / st ≤ 1048576 := Nat.le_trans hdiv hq
    have f1 : i + 1 + d = n := by omega
    have f2 : i < x9.length := by omega
    have q1 : (i : Int) < (x9.length : Int) := by omega
    have q2 : (0 : Int) ≤ i := by omega
    have q3 : ¬ (st : Int) = 0 := by omega
    have hw : wrap64 ((i : Int) + 1) = ((i + 1 : Nat) : Int) := by clear hmod hdiv hq2; unfold wrap64; omega
    have e1 : Int.tmod (q : Int) (st : Int) % 256 = ((q % st : Nat) : Int) := by
      rw [Int.tmod_eq_emod_of_nonneg (by omega)]
      rw [← Int.natCast_emod]
      omega
    have e2 : wrap64 (Int.tdiv (q : Int) (st : Int)) = ((q / st : Nat) : Int) := by
      rw [Int.tdiv_eq_ediv_of_nonneg (by omega), ← Int.natCast_ediv]
      generalize q / st = z at hq2
      clear hmod hdiv e1
      unfold wrap64
      omega
    obtain ⟨k, hk⟩ := ih (i + 1) (x9.set i ((q % st : Nat) : Int)) (q / st) f1 (by rw [List.length_set]; exact hl) (by
      rw [take_set_len _ _ _ f2, htake, List.take_succ_eq_append_getElem hil, h1]) h2 hq2
    refine ⟨k + 1, ?_⟩
    rw [tree_Keeps.l1, if_pos q1, if_neg q3, if_pos q2, if_pos q1, e1, e2, hw, Int.toNat_natCast]
    rw [List.length_set] at hk
    exact hk
structure PermOk (p : List Int) (n : Nat) : Prop where
  len : p.length = n
  rng : ∀ q ∈ p, 0 ≤ q ∧ q < (n : Int)
theorem turn_take (X : List Int) (i : Nat) (hi : i < p.length) : (turn p X).take (i + 1) = (turn p X).take i ++ [rd X p[i]] := by
  have hl : i < (turn p X).length := by simpa [turn] using hi
  rw [List.take_succ_eq_append_getElem hl]
  simp [turn]
theorem l2_keeps (hp : PermOk p n) (hn : n ≤ 16) (X : List Int) (hX : X.length = n) (R : Bool × Int) (m k0 : Int) (a b : Int) (ha : ∃ k, tree_at.f k st n l rt X = some a) (hb : ∃ k, tree_at.f k st n l rt (turn p X) = some b)
    (hsame : a = b → ∃ k, tree_Keeps.l0 k p X (turn p X) m (wrap64 (k0 + 1)) st n l rt = some R) (hdiff : a ≠ b → R = (false, 0)) :
    ∀ (d i : Nat) (x10 : List Int), i + d = n → x10.length = n → x10.take i = (turn p X).take i → ∃ k, tree_Keeps.l2 k p X x10 m k0 p p.length i st n l rt = some R := by
  intro d
  induction d with
  | zero =>
    intro i x10 hi hl htake
    have hpl := hp.len
    have e : x10 = turn p X := by
      rw [List.take_of_length_le (by omega), List.take_of_length_le (by simp [turn]; omega)] at htake
      exact htake
    obtain ⟨ka, hka⟩ := ha
    obtain ⟨kb, hkb⟩ := hb
    by_cases c : a = b
    · obtain ⟨k, hk⟩ := hsame c
      refine ⟨(ka + kb + k) + 1, ?_⟩
      have e1 := leo_add (fun z => tree_at.f z st n l rt X) (fun z => tree_at.mono _ _ _ _ _ z) ka _ hka (kb + k)
      have e2 := leo_add (fun z => tree_at.f z st n l rt (turn p X)) (fun z => tree_at.mono _ _ _ _ _ z) kb _ hkb (ka + k)
      have e3 := leo_add (fun z => tree_Keeps.l0 z p X (turn p X) m (wrap64 (k0 + 1)) st n l rt) (fun z => (tree_Keeps.mono_l z).1 _ _ _ _ _ _ _ _ _) k _ hk (ka + kb)
      rw [show ka + (kb + k) = ka + kb + k by omega] at e1
      rw [show kb + (ka + k) = ka + kb + k by omega] at e2
      rw [show k + (ka + kb) = ka + kb + k by omega] at e3
      rw [tree_Keeps.l2, if_neg (by omega), e, e1, Option.bind_some, e2, Option.bind_some, if_pos c]
      exact e3
    · refine ⟨(ka + kb) + 1, ?_⟩
      have e1 := leo_add (fun z => tree_at.f z st n l rt X) (fun z => tree_at.mono _ _ _ _ _ z) ka _ hka kb
      have e2 := leo_add (fun z => tree_at.f z st n l rt (turn p X)) (fun z => tree_at.mono _ _ _ _ _ z) kb _ hkb ka
      rw [Nat.add_comm kb ka] at e2
      rw [tree_Keeps.l2, if_neg (by omega), e, e1, Option.bind_some, e2, Option.bind_some, if_neg c, hdiff c]
  | succ d ih =>
    intro i x10 hi hl htake
    have hpl := hp.len
    have hip : i < p.length := by omega
    have hq := hp.rng _ (List.getElem_mem hip)
    have hr := rd_nat hip
    have q1 : (i : Int) < (p.length : Int) := by omega
    have q2 : (0 : Int) ≤ i := by omega
    have q3 : p[i] < (X.length : Int) := by omega
    have q4 : (i : Int) < (x10.length : Int) := by omega
    have f2 : i < x10.length := by omega
    have f1 : i + 1 + d = n := by omega
    have hw : wrap64 ((i : Int) + 1) = ((i + 1 : Nat) : Int) := by clear hq hr q3; unfold wrap64; omega
    obtain ⟨k, hk⟩ := ih (i + 1) (x10.set i (rd X p[i])) f1 (by rw [List.length_set]; exact hl) (by rw [take_set_len _ _ _ f2, htake, turn_take X i hip])
    refine ⟨k + 1, ?_⟩
    rw [tree_Keeps.l2, if_pos q1, if_pos q2, if_pos q1, hr, if_pos hq.1, if_pos q3, if_pos q4, hw, Int.toNat_natCast]
    exact hk
def fromP (T : Nat → Bool) (m : Nat) : Nat → Nat → Bool
  | 0, _ => true
  | d + 1, k => T k && fromP T m d (k + 1)
theorem fromP_all (T : Nat → Bool) (m : Nat) : ∀ d k, fromP T m d k = true ↔ ∀ j, k ≤ j → j < k + d → T j = true
  | 0, k => ⟨fun _ j h1 h2 => by omega, fun _ => rfl⟩
  | d + 1, k => by
    show (T k && fromP T m d (k + 1)) = true ↔ _
    rw [Bool.and_eq_true, fromP_all T m d (k + 1)]
    constructor
    · rintro ⟨h1, h2⟩ j h3 h4
      rcases Nat.lt_or_ge k j with h | h
      · exact h2 j h (by omega)
      · have : j = k := by omega
        rw [this]
        exact h1
    · intro h
      exact ⟨h k (Nat.le_refl _) (by omega), fun j h1 h2 => h j (by omega) (by omega)⟩
theorem l0_keeps (hL : Levels st l l.length lv) (hst : 1 ≤ st ∧ st ≤ 256) (hrt : 0 ≤ rt ∧ rt < l.length) (hn : rd lv rt = n) (hn16 : n ≤ 16) (hp : PermOk p n) (m : Nat) (hm : m ≤ 1048576) : ∀ (d k0 : Nat) (x9 x10 : List Int), k0 + d = m → x9.length = n → x10.length = n → ∃ k, tree_Keeps.l0 k p x9 x10 m k0 st n l rt = some (fromP (fun j => testP l rt p (low st n j)) m d k0, 0) := by
  intro d
  induction d with
  | zero =>
    intro k0 x9 x10 hk h9 h10
    refine ⟨0 + 1, ?_⟩
    rw [tree_Keeps.l0, if_neg (by omega)]
    rfl
  | succ d ih =>
    intro k0 x9 x10 hk h9 h10
    have g1 : k0 ≤ 1048576 := by omega
    have g2 : k0 + 1 + d = m := by omega
    have g3 : 0 + n = n := Nat.zero_add n
    have q1 : (k0 : Int) < (m : Int) := by omega
    have hw : wrap64 ((k0 : Int) + 1) = ((k0 + 1 : Nat) : Int) := by unfold wrap64; omega
    have hX := low_len st n k0
    have hXin := low_in st hst.1 n k0
    have hT : (turn p (low st n k0)).length = n := by simp [turn, hp.len]
    have a1 := (at_down hL hst hrt hn hn16 (low st n k0) hX hXin).1
    have a2 := (at_down hL hst hrt hn hn16 (turn p (low st n k0)) hT (turn_in hp.rng hX hXin)).1
    obtain ⟨k1, hk1⟩ := ih (k0 + 1) (low st n k0) (turn p (low st n k0)) g2 hX hT
    have h2 := l2_keeps (l := l) (rt := rt) (st := st) hp hn16 (low st n k0) hX (fromP (fun j => testP l rt p (low st n j)) m (d + 1) k0, 0) m k0 _ _ a1 a2 (fun e => ⟨k1, by
      rw [hw, hk1]
      have : testP l rt p (low st n k0) = true := decide_eq_true e
      show _ = some ((testP l rt p (low st n k0)) && fromP _ m d (k0 + 1), (0 : Int))
      rw [this, Bool.true_and]⟩) (fun e => by
      have : testP l rt p (low st n k0) = false := decide_eq_false e
      show ((testP l rt p (low st n k0)) && fromP _ m d (k0 + 1), (0 : Int)) = _
      rw [this, Bool.false_and]) n 0 x10 g3 h10 rfl
    obtain ⟨k, hk'⟩ := l1_keeps (l := l) (rt := rt) (p := p) hst hn16 k0 g1 _ m k0 x10 h2 n 0 x9 k0 g3 h9 rfl rfl g1
    refine ⟨k + 1, ?_⟩
    rw [tree_Keeps.l0, if_pos q1]
    exact hk'
theorem l0_row (hst : 1 ≤ st ∧ st ≤ 256) (hn : n ≤ 16) (K0 : Nat) : ∀ (d : Nat) (x7 : List Int) (q : Nat), d ≤ n → x7.length = n → x7.drop d = (low st n K0).reverse.drop d → (low st n K0).drop (n - d) = low st d q → q ≤ 1048576 → ∃ k, vivariumref11_Row.l0 k st q x7 ((d : Int) - 1) = some (low st n K0).reverse := by
  intro d
  induction d with
  | zero =>
    intro x7 q hd hl hdrop _ _
    refine ⟨0 + 1, ?_⟩
    rw [vivariumref11_Row.l0, if_neg (by omega)]
    rw [List.drop_zero, List.drop_zero] at hdrop
    rw [hdrop]
  | succ d ih =>
    intro x7 q hd hl hdrop hlow hq
    have hd1 : low st (d + 1) q = ((q % st : Nat) : Int) :: low st d (q / st) := rfl
    have hll := low_len st n K0
    have hil : n - (d + 1) < (low st n K0).length := by omega
    rw [hd1, List.drop_eq_getElem_cons hil] at hlow
    injection hlow with h1 h2
    rw [show n - (d + 1) + 1 = n - d by omega] at h2
    have hmod := Nat.mod_lt q (show 0 < st by omega)
    have hq2 : q / st ≤ 1048576 := Nat.le_trans (Nat.div_le_self q st) hq
    have f2 : d < x7.length := by omega
    have q0 : ((d + 1 : Nat) : Int) - 1 ≥ 0 := by omega
    have q1 : ((d + 1 : Nat) : Int) - 1 < (x7.length : Int) := by omega
    have q2 : (0 : Int) ≤ ((d + 1 : Nat) : Int) - 1 := by omega
    have q3 : ¬ (st : Int) = 0 := by omega
    have q4 : (((d + 1 : Nat) : Int) - 1).toNat = d := by omega
    have hw : wrap64 (((d + 1 : Nat) : Int) - 1 - 1) = (d : Int) - 1 := by clear hmod hq2 h1 h2; unfold wrap64; omega
    have e1 : Int.tmod (q : Int) (st : Int) % 256 = ((q % st : Nat) : Int) := by
      rw [Int.tmod_eq_emod_of_nonneg (by omega)]
      rw [← Int.natCast_emod]
      omega
    have e2 : wrap64 (Int.tdiv (q : Int) (st : Int)) = ((q / st : Nat) : Int) := by
      rw [Int.tdiv_eq_ediv_of_nonneg (by omega), ← Int.natCast_ediv]
      generalize q / st = z at hq2
      clear hmod e1 h1
      unfold wrap64
      omega
    have hrl : d < (low st n K0).reverse.length := by simp [hll]; omega
    obtain ⟨k, hk⟩ := ih (x7.set d ((q % st : Nat) : Int)) (q / st) (by omega) (by rw [List.length_set]; exact hl) (by
      rw [List.drop_eq_getElem_cons (by rw [List.length_set]; exact f2), List.drop_eq_getElem_cons hrl, List.getElem_set_self, List.drop_set_of_lt (by omega), hdrop, List.getElem_reverse]
      congr 1
      rw [← h1]
      congr 1
      omega) h2 hq2
    refine ⟨k + 1, ?_⟩
    rw [vivariumref11_Row.l0, if_pos q0, if_neg q3, if_pos q2, if_pos q1, e1, e2, hw, q4]
    exact hk
theorem row_is (hst : 1 ≤ st ∧ st ≤ 256) (hn : n ≤ 16) (K0 : Nat) (hK : K0 ≤ 1048576) : ∃ k, vivariumref11_Row.f k st n K0 = some (low st n K0).reverse := by
  obtain ⟨k, hk⟩ := l0_row hst hn K0 n (List.replicate n 0) K0 (Nat.le_refl _) (by simp) (by rw [List.drop_of_length_le (by simp), List.drop_of_length_le (by simp [low_len])]) (by rw [Nat.sub_self]; rfl) hK
  refine ⟨k, ?_⟩
  have hw : wrap64 ((n : Int) - 1) = (n : Int) - 1 := by unfold wrap64; omega
  unfold vivariumref11_Row.f
  rw [if_pos (by omega), if_pos (by omega), hw, Int.toNat_natCast]
  exact hk
theorem l1_rkeeps (hp : PermOk p n) (hn : n ≤ 16) (X : List Int) (hX : X.length = n) (R : Bool × Int) (m k0 : Int) (a b : Int) (ha : ∃ k, vivariumref11_answer.f k st n l rt X = some a) (hb : ∃ k, vivariumref11_answer.f k st n l rt (turn p X) = some b)
    (hsame : a = b → ∃ k, vivariumref11_Keeps.l0 k p m (wrap64 (k0 + 1)) st n l rt = some R) (hdiff : a ≠ b → R = (false, 0)) :
    ∀ (d i : Nat) (x10 : List Int), i + d = n → x10.length = n → x10.take i = (turn p X).take i → ∃ k, vivariumref11_Keeps.l1 k p m k0 X x10 i st n l rt = some R := by
  intro d
  induction d with
  | zero =>
    intro i x10 hi hl htake
    have hpl := hp.len
    have e : x10 = turn p X := by
      rw [List.take_of_length_le (by omega), List.take_of_length_le (by simp [turn]; omega)] at htake
      exact htake
    obtain ⟨ka, hka⟩ := ha
    obtain ⟨kb, hkb⟩ := hb
    by_cases c : a = b
    · obtain ⟨k, hk⟩ := hsame c
      refine ⟨(ka + kb + k) + 1, ?_⟩
      have e1 := leo_add (fun z => vivariumref11_answer.f z st n l rt X) (fun z => vivariumref11_answer.mono _ _ _ _ _ z) ka _ hka (kb + k)
      have e2 := leo_add (fun z => vivariumref11_answer.f z st n l rt (turn p X)) (fun z => vivariumref11_answer.mono _ _ _ _ _ z) kb _ hkb (ka + k)
      have e3 := leo_add (fun z => vivariumref11_Keeps.l0 z p m (wrap64 (k0 + 1)) st n l rt) (fun z => (vivariumref11_Keeps.mono_l z).1 _ _ _ _ _ _ _) k _ hk (ka + kb)
      rw [show ka + (kb + k) = ka + kb + k by omega] at e1
      rw [show kb + (ka + k) = ka + kb + k by omega] at e2
      rw [show k + (ka + kb) = ka + kb + k by omega] at e3
      rw [vivariumref11_Keeps.l1, if_neg (by omega), e, e1, Option.bind_some, e2, Option.bind_some, if_pos c]
      exact e3
    · refine ⟨(ka + kb) + 1, ?_⟩
      have e1 := leo_add (fun z => vivariumref11_answer.f z st n l rt X) (fun z => vivariumref11_answer.mono _ _ _ _ _ z) ka _ hka kb
      have e2 := leo_add (fun z => vivariumref11_answer.f z st n l rt (turn p X)) (fun z => vivariumref11_answer.mono _ _ _ _ _ z) kb _ hkb ka
      rw [Nat.add_comm kb ka] at e2
      rw [vivariumref11_Keeps.l1, if_neg (by omega), e, e1, Option.bind_some, e2, Option.bind_some, if_neg c, hdiff c]
  | succ d ih =>
    intro i x10 hi hl htake
    have hpl := hp.len
    have hip : i < p.length := by omega
    have hq := hp.rng _ (List.getElem_mem hip)
    have hr := rd_nat hip
    have q0 : (i : Int) < (n : Int) := by omega
    have q1 : (i : Int) < (p.length : Int) := by omega
    have q2 : (0 : Int) ≤ i := by omega
    have q3 : p[i] < (X.length : Int) := by omega
    have q4 : (i : Int) < (x10.length : Int) := by omega
    have f2 : i < x10.length := by omega
    have f1 : i + 1 + d = n := by omega
    have hw : wrap64 ((i : Int) + 1) = ((i + 1 : Nat) : Int) := by clear hq hr q3; unfold wrap64; omega
    obtain ⟨k, hk⟩ := ih (i + 1) (x10.set i (rd X p[i])) f1 (by rw [List.length_set]; exact hl) (by rw [take_set_len _ _ _ f2, htake, turn_take X i hip])
    refine ⟨k + 1, ?_⟩
    rw [vivariumref11_Keeps.l1, if_pos q0, if_pos q2, if_pos q1, hr, if_pos hq.1, if_pos q3, if_pos q4, hw, Int.toNat_natCast]
    exact hk
theorem l0_rkeeps (hL : Levels st l l.length lv) (hst : 1 ≤ st ∧ st ≤ 256) (hrt : 0 ≤ rt ∧ rt < l.length) (hn : rd lv rt = n) (hn16 : n ≤ 16) (hp : PermOk p n) (m : Nat) (hm : m ≤ 1048576) : ∀ (d k0 : Nat), k0 + d = m → ∃ k, vivariumref11_Keeps.l0 k p m k0 st n l rt = some (fromP (fun j => testP l rt p (low st n j).reverse) m d k0, 0) := by
  intro d
  induction d with
  | zero =>
    intro k0 hk
    refine ⟨0 + 1, ?_⟩
    rw [vivariumref11_Keeps.l0, if_neg (by omega)]
    rfl
  | succ d ih =>
    intro k0 hk
    have g1 : k0 ≤ 1048576 := by omega
    have g2 : k0 + 1 + d = m := by omega
    have g3 : 0 + n = n := Nat.zero_add n
    have q1 : (k0 : Int) < (m : Int) := by omega
    have q5 : (0 : Int) ≤ (n : Int) := by omega
    have q6 : ((n : Int)).toNat ≤ 281474976710656 := by omega
    have hw : wrap64 ((k0 : Int) + 1) = ((k0 + 1 : Nat) : Int) := by unfold wrap64; omega
    have hX : (low st n k0).reverse.length = n := by rw [List.length_reverse, low_len]
    have hXin : ∀ v ∈ (low st n k0).reverse, 0 ≤ v ∧ v < (st : Int) := fun v hv => low_in st hst.1 n k0 v (List.mem_reverse.1 hv)
    have hT : (turn p (low st n k0).reverse).length = n := by simp [turn, hp.len]
    have a1 := (at_down hL hst hrt hn hn16 (low st n k0).reverse hX hXin).2
    have a2 := (at_down hL hst hrt hn hn16 (turn p (low st n k0).reverse) hT (turn_in hp.rng hX hXin)).2
    obtain ⟨k1, hk1⟩ := ih (k0 + 1) g2
    obtain ⟨kr, hkr⟩ := row_is (st := st) (n := n) hst hn16 k0 g1
    obtain ⟨k, hk'⟩ := l1_rkeeps (l := l) (rt := rt) (st := st) hp hn16 (low st n k0).reverse hX (fromP (fun j => testP l rt p (low st n j).reverse) m (d + 1) k0, 0) m k0 _ _ a1 a2 (fun e => ⟨k1, by
      rw [hw, hk1]
      have : testP l rt p (low st n k0).reverse = true := decide_eq_true e
      show _ = some ((testP l rt p (low st n k0).reverse) && fromP _ m d (k0 + 1), (0 : Int))
      rw [this, Bool.true_and]⟩) (fun e => by
      have : testP l rt p (low st n k0).reverse = false := decide_eq_false e
      show ((testP l rt p (low st n k0).reverse) && fromP _ m d (k0 + 1), (0 : Int)) = _
      rw [this, Bool.false_and]) n 0 (List.replicate n 0) g3 (List.length_replicate ..) rfl
    have e1 := leo_add (fun z => vivariumref11_Row.f z st n k0) (fun z => vivariumref11_Row.mono _ _ _ z) kr _ hkr k
    have e2 := leo_add (fun z => vivariumref11_Keeps.l1 z p m k0 (low st n k0).reverse (List.replicate n 0) ((0 : Nat) : Int) st n l rt) (fun z => (vivariumref11_Keeps.mono_l z).2 _ _ _ _ _ _ _ _ _ _) k _ hk' kr
    refine ⟨(kr + k) + 1, ?_⟩
    rw [Nat.add_comm k kr] at e2
    rw [vivariumref11_Keeps.l0, if_pos q1, e1, Option.bind_some, if_pos q5, if_pos q6, Int.toNat_natCast]
    exact e2
end
end Go.Proofs.YtbnonnogkgbpiaaDoor.TreePlain
end
section
namespace Go.Proofs.YtbnonnogkgbpiaaDoor.TreePlain
open Go Go.RowKit Go.Proofs.YtbnonnogkgbpiaaDoorW.PrintWords Go.Proofs.YtbnonnogkgbpiaaDoorW.PrintLast Go.Proofs.YtbnonnogkgbpiaaDoorW.PrintMore Go.Proofs.YtbnonnogkgbpiaaDoor.PT Go.Proofs.YtbnonnogkgbpiaaDoor.TreeText Go.Proofs.YtbnonnogkgbpiaaDoor.Forest
set_option linter.unusedVariables false
set_option linter.unusedSimpArgs false
theorem l0_perm (l : List Int) (n : Nat) (hn : n ≤ 16) (hl : l.length = n) : ∀ (d i : Nat) (seen : List Bool), i + d = n → seen.length = n → (∀ q : Nat, q < n → (seen.getD q false = true ↔ (q : Int) ∈ l.take i)) → (∀ x ∈ l.take i, 0 ≤ x ∧ x < (n : Int)) → (l.take i).Nodup → ∃ k, vivariumref11_Perm.l0 k l n seen i = some (orderP l n) := by
  intro d
  induction d with
  | zero =>
    intro i seen hi hs hseen hr hnd
    have e : l.take i = l := List.take_of_length_le (by omega)
    rw [e] at hr hnd
    refine ⟨0 + 1, ?_⟩
    rw [vivariumref11_Perm.l0, if_neg (by omega)]
    unfold orderP
    rw [decide_eq_true ⟨by omega, hr, hnd⟩]
  | succ d ih =>
    intro i seen hi hs hseen hr hnd
    have hil : i < l.length := by omega
    have q0 : (i : Int) < (n : Int) := by omega
    have q1 : (i : Int) < (l.length : Int) := by omega
    have q2 : (0 : Int) ≤ (i : Int) := by omega
    have hw : wrap64 ((i : Int) + 1) = ((i + 1 : Nat) : Int) := by unfold wrap64; omega
    have hrd := rd_nat hil
    have ht : l.take (i + 1) = l.take i ++ [l[i]] := List.take_succ_eq_append_getElem hil
    have hm : l[i] ∈ l := List.getElem_mem hil
    by_cases c1 : l[i] < 0
    · refine ⟨0 + 1, ?_⟩
      rw [vivariumref11_Perm.l0, if_pos q0, if_pos q2, if_pos q1, hrd, if_pos c1]
      unfold orderP
      rw [decide_eq_false (fun h => by have := h.2.1 _ hm; omega)]
    by_cases c2 : l[i] ≥ (n : Int)
    · refine ⟨0 + 1, ?_⟩
      rw [vivariumref11_Perm.l0, if_pos q0, if_pos q2, if_pos q1, hrd, if_neg c1, if_pos c2]
      unfold orderP
      rw [decide_eq_false (fun h => by have := h.2.1 _ hm; omega)]
    have q3 : 0 ≤ l[i] := by omega
    have q4 : l[i] < (seen.length : Int) := by omega
    have hsx := hseen l[i].toNat (by omega)
    have ex : ((l[i].toNat : Nat) : Int) = l[i] := by omega
    rw [ex] at hsx
    by_cases c3 : seen.getD l[i].toNat false = true
    · refine ⟨0 + 1, ?_⟩
      rw [vivariumref11_Perm.l0, if_pos q0, if_pos q2, if_pos q1, hrd, if_neg c1, if_neg c2, if_pos q3, if_pos q4, if_pos (show rdOf false seen l[i] = true from c3)]
      unfold orderP
      rw [decide_eq_false (fun h => by
        have h1 := h.2.2
        have h2 : (l.take (i + 1)).Nodup := List.Sublist.nodup (List.take_sublist _ _) h1
        rw [ht] at h2
        exact absurd rfl ((List.nodup_append.1 h2).2.2 _ (hsx.1 c3) _ (List.mem_singleton.2 rfl)))]
    · have hni : l[i] ∉ l.take i := fun h => c3 (hsx.2 h)
      obtain ⟨k, hk⟩ := ih (i + 1) (seen.set l[i].toNat true) (by omega) (by rw [List.length_set]; exact hs) (fun q hq => by
        rw [ht, List.mem_append, List.mem_singleton, List.getD_eq_getElem?_getD, List.getElem?_set]
        by_cases e : l[i].toNat = q
        · rw [if_pos e, if_pos (by omega)]
          constructor
          · intro _
            exact .inr (by omega)
          · intro _
            rfl
        · rw [if_neg e, ← List.getD_eq_getElem?_getD, hseen q hq]
          constructor
          · exact .inl
          · rintro (h | h)
            · exact h
            · exact absurd (by omega) e) (fun x hx => by
        rw [ht] at hx
        rcases List.mem_append.1 hx with h | h
        · exact hr x h
        · rw [List.mem_singleton.1 h]
          exact ⟨q3, by omega⟩) (by
        rw [ht]
        refine List.nodup_append.2 ⟨hnd, by simp, ?_⟩
        intro a ha b hb e
        rw [List.mem_singleton.1 hb] at e
        exact hni (e ▸ ha))
      refine ⟨k + 1, ?_⟩
      rw [vivariumref11_Perm.l0, if_pos q0, if_pos q2, if_pos q1, hrd, if_neg c1, if_neg c2, if_pos q3, if_pos q4, if_neg (show ¬ rdOf false seen l[i] = true from c3), hw]
      exact hk
theorem perm_is (l : List Int) (n : Nat) (hn : n ≤ 16) : ∃ k, vivariumref11_Perm.f k l n = some (orderP l n) := by
  by_cases hl : l.length = n
  · obtain ⟨k, hk⟩ := l0_perm l n hn hl n 0 (List.replicate n false) (by omega) (by simp) (fun q hq => by
      rw [List.getD_eq_getElem?_getD, List.getElem?_replicate]
      split <;> simp) (fun x hx => by simp at hx) (by simp)
    refine ⟨k, ?_⟩
    unfold vivariumref11_Perm.f
    rw [if_pos (by omega), if_pos (by omega), if_pos (by omega), Int.toNat_natCast]
    exact hk
  · refine ⟨0, ?_⟩
    unfold vivariumref11_Perm.f orderP
    rw [if_neg (by omega), decide_eq_false (fun h => hl (by omega))]
def keepsP (st n : Int) (l : List S49) (rt : Int) (p : List Int) : Bool × Int :=
  if chk st n l rt ≠ 0 then (false, chk st n l rt) else if orderP p n = false then (false, 111) else
  match rowsP st n.toNat 1 with
  | none => (false, 4)
  | some m => (fromP (fun j => testP l rt p (low st.toNat n.toNat j)) m.toNat m.toNat 0, 0)
theorem fromP_back (st n : Nat) (h : 1 ≤ st) (T : List Int → Bool) : fromP (fun j => T (low st n j).reverse) (st ^ n) (st ^ n) 0 = fromP (fun j => T (low st n j)) (st ^ n) (st ^ n) 0 := by
  apply Bool.eq_iff_iff.2
  rw [fromP_all, fromP_all]
  have := all_back st h n T
  constructor
  · intro hx j _ hj
    exact this.1 (fun k hk => hx k (Nat.zero_le _) (by omega)) j (by omega)
  · intro hx j _ hj
    exact this.2 (fun k hk => hx k (Nat.zero_le _) (by omega)) j (by omega)
theorem keeps_is (st n rt : Int) (l : List S49) (hB : Bytes l) (p : List Int) (hw : wfAll p = true) (hpl : p.length ≤ 281474976710656) : (∃ k, tree_Keeps.f k st n l rt p = some (keepsP st n l rt p)) ∧ (∃ k, vivariumref11_Keeps.f k st n l rt p = some (keepsP st n l rt p)) := by
  obtain ⟨k1, hk1⟩ := chk_tree st n rt l hB
  obtain ⟨k2, hk2⟩ := chk_ref st n rt l hB
  unfold keepsP
  by_cases c : chk st n l rt = 0
  case neg =>
    rw [if_pos (by simpa using c)]
    refine ⟨⟨k1, ?_⟩, ⟨k2, ?_⟩⟩
    · unfold tree_Keeps.f
      rw [hk1, Option.bind_some, if_neg c]
    · unfold vivariumref11_Keeps.f
      rw [hk2, Option.bind_some, if_neg c]
  rw [if_neg (by simpa using c)]
  have hF := chk_zero c
  obtain ⟨lv, hL, hlv⟩ := chk_levels c
  obtain ⟨s, rfl⟩ : ∃ s : Nat, st = (s : Int) := ⟨st.toNat, by have := hF.hst; omega⟩
  obtain ⟨m, rfl⟩ : ∃ m : Nat, n = (m : Int) := ⟨n.toNat, by have := hF.hn; omega⟩
  have hst : 1 ≤ s ∧ s ≤ 256 := by have := hF.hst; omega
  have hm16 : m ≤ 16 := by have := hF.hn; omega
  obtain ⟨k3, hk3⟩ := perm_is p m hm16
  have ho : ∀ k, tree_order.f k p m = some (orderP p m) := fun k => by
    unfold tree_order.f
    rw [if_pos hw, if_pos hpl]
  by_cases c2 : orderP p m = false
  · rw [if_pos c2]
    refine ⟨⟨k1, ?_⟩, ⟨k2 + k3, ?_⟩⟩
    · unfold tree_Keeps.f
      rw [hk1, Option.bind_some, if_pos c, ho, Option.bind_some, if_neg (by rw [c2]; decide)]
    · have e1 := leo_add (fun z => vivariumref11_Check.f z s m l rt) (fun z => vivariumref11_Check.mono _ _ _ _ z) k2 _ hk2 k3
      have e2 := leo_add (fun z => vivariumref11_Perm.f z p m) (fun z => vivariumref11_Perm.mono _ _ z) k3 _ hk3 k2
      rw [Nat.add_comm k3 k2] at e2
      unfold vivariumref11_Keeps.f
      rw [e1, Option.bind_some, if_pos c, e2, Option.bind_some, if_neg (by rw [c2]; decide)]
  rw [if_neg c2]
  have c3 : orderP p m = true := by simpa using c2
  have hpo : PermOk p m := by
    have := of_decide_eq_true c3
    exact ⟨by omega, this.2.1⟩
  have hrow := rows_is (s : Int) (m : Int) (by omega) (by omega) (by omega) (by omega)
  obtain ⟨k4, r4, hk4, hq4⟩ := asks_is (s : Int) (m : Int) (by omega) (by omega) (by omega) (by omega)
  unfold rowsR at hrow
  rw [Int.toNat_natCast] at hrow hq4 ⊢
  rw [Int.toNat_natCast]
  rcases hq : rowsP (s : Int) m 1 with _ | M
  · rw [hq] at hrow hq4
    have h4 : r4 > 1048576 := by
      rcases hq4 with ⟨_, h⟩ | ⟨h, _⟩
      · exact h
      · cases h
    refine ⟨⟨k1 + (m + 1), ?_⟩, ⟨k2 + k3 + k4, ?_⟩⟩
    · have e1 := leo_add (fun z => tree_Check.f z s m l rt) (fun z => tree_Check.mono _ _ _ _ z) k1 _ hk1 (m + 1)
      have e2 := leo_add (fun z => tree_rowsOf.f z s m) (fun z => tree_rowsOf.mono _ _ z) (m + 1) _ hrow k1
      rw [Nat.add_comm (m + 1) k1] at e2
      unfold tree_Keeps.f
      rw [e1, Option.bind_some, if_pos c, ho, Option.bind_some, if_pos c3, e2, Option.bind_some, if_neg (by decide)]
    · have e1 := leo_add (fun z => vivariumref11_Check.f z s m l rt) (fun z => vivariumref11_Check.mono _ _ _ _ z) k2 _ hk2 (k3 + k4)
      have e2 := leo_add (fun z => vivariumref11_Perm.f z p m) (fun z => vivariumref11_Perm.mono _ _ z) k3 _ hk3 (k2 + k4)
      have e3 := leo_add (fun z => vivariumref11_Asks.f z s m) (fun z => vivariumref11_Asks.mono _ _ z) k4 _ hk4 (k2 + k3)
      rw [show k2 + (k3 + k4) = k2 + k3 + k4 by omega] at e1
      rw [show k3 + (k2 + k4) = k2 + k3 + k4 by omega] at e2
      rw [show k4 + (k2 + k3) = k2 + k3 + k4 by omega] at e3
      unfold vivariumref11_Keeps.f
      rw [e1, Option.bind_some, if_pos c, e2, Option.bind_some, if_pos c3, e3, Option.bind_some, if_pos h4]
  · rw [hq] at hrow hq4
    obtain ⟨eM, hM⟩ := rowsP_pow s hst.1 m 1 M hq (by omega)
    rw [Int.one_mul] at eM
    subst eM
    have hMn : s ^ m ≤ 1048576 := by omega
    obtain ⟨rfl, h4⟩ : ((s ^ m : Nat) : Int) = r4 ∧ r4 ≤ 1048576 := by
      rcases hq4 with ⟨h, _⟩ | ⟨h, h2⟩
      · cases h
      · exact ⟨Option.some.inj h, h2⟩
    dsimp only at hrow ⊢
    rw [Int.toNat_natCast]
    generalize hMM : s ^ m = M at *
    obtain ⟨k5, hk5⟩ := l0_keeps (p := p) hL hst hF.hrt hlv hm16 hpo M hMn M 0 (List.replicate m 0) (List.replicate m 0) (by omega) (by simp) (by simp)
    obtain ⟨k6, hk6⟩ := l0_rkeeps (p := p) hL hst hF.hrt hlv hm16 hpo M hMn M 0 (by omega)
    have hback := fromP_back s m hst.1 (fun X => testP l rt p X)
    rw [hMM] at hback
    rw [hback] at hk6
    rw [show ((0 : Nat) : Int) = 0 from rfl] at hk5 hk6
    refine ⟨⟨k1 + (m + 1) + k5, ?_⟩, ⟨k2 + k3 + k4 + k6, ?_⟩⟩
    · have e1 := leo_add (fun z => tree_Check.f z s m l rt) (fun z => tree_Check.mono _ _ _ _ z) k1 _ hk1 (m + 1 + k5)
      have e2 := leo_add (fun z => tree_rowsOf.f z s m) (fun z => tree_rowsOf.mono _ _ z) (m + 1) _ hrow (k1 + k5)
      have e3 := leo_add (fun z => tree_Keeps.l0 z p (List.replicate m 0) (List.replicate m 0) M 0 s m l rt) (fun z => (tree_Keeps.mono_l z).1 _ _ _ _ _ _ _ _ _) k5 _ hk5 (k1 + (m + 1))
      rw [show k1 + (m + 1 + k5) = k1 + (m + 1) + k5 by omega] at e1
      rw [show m + 1 + (k1 + k5) = k1 + (m + 1) + k5 by omega] at e2
      rw [show k5 + (k1 + (m + 1)) = k1 + (m + 1) + k5 by omega] at e3
      unfold tree_Keeps.f
      rw [e1, Option.bind_some, if_pos c, ho, Option.bind_some, if_pos c3, e2, Option.bind_some, if_pos rfl, if_pos (by omega), if_pos (by omega), Int.toNat_natCast]
      exact e3
    · have e1 := leo_add (fun z => vivariumref11_Check.f z s m l rt) (fun z => vivariumref11_Check.mono _ _ _ _ z) k2 _ hk2 (k3 + k4 + k6)
      have e2 := leo_add (fun z => vivariumref11_Perm.f z p m) (fun z => vivariumref11_Perm.mono _ _ z) k3 _ hk3 (k2 + k4 + k6)
      have e3 := leo_add (fun z => vivariumref11_Asks.f z s m) (fun z => vivariumref11_Asks.mono _ _ z) k4 _ hk4 (k2 + k3 + k6)
      have e4 := leo_add (fun z => vivariumref11_Keeps.l0 z p M 0 s m l rt) (fun z => (vivariumref11_Keeps.mono_l z).1 _ _ _ _ _ _ _) k6 _ hk6 (k2 + k3 + k4)
      rw [show k2 + (k3 + k4 + k6) = k2 + k3 + k4 + k6 by omega] at e1
      rw [show k3 + (k2 + k4 + k6) = k2 + k3 + k4 + k6 by omega] at e2
      rw [show k4 + (k2 + k3 + k6) = k2 + k3 + k4 + k6 by omega] at e3
      rw [show k6 + (k2 + k3 + k4) = k2 + k3 + k4 + k6 by omega] at e4
      unfold vivariumref11_Keeps.f
      rw [e1, Option.bind_some, if_pos c, e2, Option.bind_some, if_pos c3, e3, Option.bind_some, if_neg (by omega)]
      exact e4
end Go.Proofs.YtbnonnogkgbpiaaDoor.TreePlain
end
section
namespace Go.Proofs.YtbnonnogkgbpiaaDoor.LentT
open Go Go.RowKit Go.Proofs.YtbnonnogkgbpiaaDoorW.PrintWords Go.Proofs.YtbnonnogkgbpiaaDoorW.PrintLast Go.Proofs.YtbnonnogkgbpiaaDoorW.PrintMore Go.Proofs.YtbnonnogkgbpiaaDoor.PT Go.Proofs.YtbnonnogkgbpiaaDoor.TreePlain Go.Proofs.YtbnonnogkgbpiaaDoor.TreeText Go.Proofs.YtbnonnogkgbpiaaDoor.Forest
set_option linter.unusedVariables false
set_option linter.unusedSimpArgs false
theorem len1 (xs : List Int) (a : Int) : (xs ++ [a]).length = xs.length + 1 := by simp
theorem asks_any (a b : Int) (h1 : 1 ≤ a) (h2 : a ≤ 256) (h3 : 0 ≤ b) (h4 : b ≤ 16) (W : World) : Calls Tryd.prog 29 #[.int .i64 a, .int .i64 b] W fun e w' => (∃ r, e = .returned (.int .i64 r)) ∧ Below W.heap.size W w' := by
  obtain ⟨k, r, hk, _⟩ := asks_is a b h1 h2 h3 h4
  refine (vivariumref11_Asks.calls k a b r W hk).mono ?_
  rintro e w' ⟨rfl, hd⟩
  exact ⟨⟨r, rfl⟩, hd.below⟩
theorem TA.mark1 {w W : World} {st n rt : Int} {A : Option Addr} {c : Nat} {l : List S49} {t2 t6 gn cn : Nat} {K : List (Nat × Nat)} {L : List S49} {k : IntKind} {ty : TypeId} {gf cf m : Nat} {xs : List Int} {a : Int} (h : TA w W st n rt A c l t2 t6 gn cn K L k ty (.slice (some ⟨gf, 0, none⟩) m cf) (xs ++ [a])) : W.cell? ⟨gf, xs.length, none⟩ = some (.int k a) := by
  have h2 := (Kd.R_reads' h.fu).2.2
  obtain ⟨ad, ef, u0⟩ := Kd.at_int h2 (xs.length : Int) (by omega) (by simp; omega)
  obtain rfl : (⟨gf, 0, none⟩ : Addr) = ad := Option.some.inj ef
  have e1 : rd (xs ++ [a]) (xs.length : Int) = a := by
    unfold rd
    rw [Int.toNat_natCast, List.getD_eq_getElem?_getD, List.getElem?_append_right (Nat.le_refl _), Nat.sub_self]
    rfl
  rw [addr_add, e1, Int.toNat_natCast] at u0
  exact u0
set_option maxHeartbeats 32000000 in
set_option maxRecDepth 100000 in
theorem keepses_walk (st n rt : Int) (A : Option Addr) (c : Nat) (l : List S49) (A1 : Option Addr) (c1 : Nat) (xs : List Int) (w : World) (hp : Pow w) (hr : Kd.C k49 w A l.length l) (hc : l.length ≤ c) (hl : l.length ≤ 2000000) (hk : ∀ j, (nd l j).f1.length ≤ 2000000) (hy : Bytes l)
    (hx : Kd.C (Kd.int .i64) w A1 xs.length xs) (hxc : xs.length ≤ c1) (hxl : xs.length ≤ 2000000) (hxw : wfAll xs = true) :
    Calls Tryd.prog 9 #[.agg #[.int .i64 st, .int .i64 n, .slice A l.length c, .int .i64 rt], .slice A1 xs.length c1] w fun e w' => e = .returned (.bool true) ∧ Below w.heap.size w w' := by
  have hu := Tryd.underlying24
  obtain ⟨⟨k3, hk3⟩, ⟨k4, hk4⟩⟩ := keeps_is st n rt l hy xs hxw (by omega)
  generalize keepsP st n l rt xs = P1 at hk3 hk4
  obtain ⟨r1, r2⟩ := P1
  have cA := Aside0.mk (fun (W : World) (A : Option Addr) (c : Nat) (A1 : Option Addr) (c1 : Nat) (h : Kd.C k49 W A l.length l) (hc : l.length ≤ c) (h1 : Kd.C (Kd.int .i64) W A1 xs.length xs) (hc1 : xs.length ≤ c1) => tree_Keeps.calls k3 st n A c l rt A1 c1 xs r1 r2 W h hc h1 hc1 hk3)
  have cB := Aside0.mk (fun (W : World) (A : Option Addr) (c : Nat) (A1 : Option Addr) (c1 : Nat) (h : Kd.C k49 W A l.length l) (hc : l.length ≤ c) (h1 : Kd.C (Kd.int .i64) W A1 xs.length xs) (hc1 : xs.length ≤ c1) => vivariumref11_Keeps.calls k4 st n A c l rt A1 c1 xs r1 r2 W h hc h1 hc1 hk4)
  have cL := Aside0.mk (fun (W : World) (hW : Below w.heap.size w W) => lent_calls st n A c l rt W (Kd.C_below hr hW) hc hl hk)
  have cK := Aside0.mk (fun B gn cn K (W : World) (hL : LentAt B W (.slice (some ⟨gn, 0, none⟩) (l.length + 2) cn) l l.length 2 K) (hW : Below w.heap.size w W) => kept_calls B st n A c l rt gn cn K W hL (Kd.C_below hr hW) hc hl hk)
  have HR := Aside0.mk hr
  have HC := Aside0.mk hc
  have HX := Aside0.mk hx
  have HS := Aside0.mk (And.intro hl (And.intro hxl hxc))
  have HP := Aside0.mk hp
  have HB := Aside0.mk (Below.refl w.heap.size w)
  clear hr hc hx hl hk hy hxl hxc hxw hp hk3 hk4
  go_enter Tryd.func9, Tryd.ntmps9
  go_upto_region 3 with (first
    | ((with_reducible refine gate_dst (N := 2) rfl ?_); refine box_event ?hg (N := 2) ?hd (cs := #[.int .i64 st, .int .i64 n, .slice A l.length c, .int .i64 rt]) (t := 24) ?hr ?_; (case hd => rfl); (case hg => rfl); (case hr => first | (go_simp; done) | (go_simp; rfl)); intro t2 hg W9 hbox hb; have n_ := below_step HB.out hb; clear HB; have HB := Aside0.mk n_; have BX := Aside0.mk hbox; clear n_ hg hbox hb)
    | (go_at_call 16; (with_reducible refine (AliveT.alive_calls _ (HP.out.on HB.out)).mono ?_); rintro e_ W8 ⟨rfl, hb⟩; have n_ := below_step HB.out hb; have m_ := blk_below BX.out hb; clear HB BX; have HB := Aside0.mk n_; have BX := Aside0.mk m_; obtain ⟨gc0, gc1, gc2, gc3⟩ := four m_; clear n_ m_ hb)
    | (go_at_call 29; (with_reducible refine (asks_any _ _ ?s1 ?s2 ?s3 ?s4 _).mono ?_); (case s1 => (first | omega | (split <;> omega) | (split <;> split <;> omega) | (unfold mx; split <;> omega))); (case s2 => (first | omega | (split <;> omega) | (split <;> split <;> omega) | (unfold mx; split <;> omega))); (case s3 => (first | omega | (split <;> omega) | (split <;> split <;> omega) | (unfold mx; split <;> omega))); (case s4 => (first | omega | (split <;> omega) | (split <;> split <;> omega) | (unfold mx; split <;> omega))); rintro e_ W7 ⟨⟨ra, rfl⟩, hb⟩; have n_ := below_step HB.out hb; have m_ := blk_below BX.out hb; clear HB BX gc0 gc1 gc2 gc3; have HB := Aside0.mk n_; have BX := Aside0.mk m_; obtain ⟨gc0, gc1, gc2, gc3⟩ := four m_; clear n_ m_ hb))
  by_cases b1 : ra > 5000
  case pos =>
    by_cases b2 : ra ≤ 1048576
    case pos =>
      go_wp2
      go_ret
      exact ⟨rfl, HB.out⟩
    case neg =>
      go_upto_region 9 with (first
        | (go_at_call 35; (with_reducible refine (cL.out _ HB.out).mono ?_); rintro e_ W7 ⟨gn, cn, K, rfl, hl_, hb⟩; have LA := Aside0.mk (hl_.lower HB.out.size); have n_ := below_step HB.out hb; have m_ := blk_below BX.out hb; clear HB BX gc0 gc1 gc2 gc3; have HB := Aside0.mk n_; have BX := Aside0.mk m_; clear n_ m_ hl_ hb)
        | ((with_reducible refine gate_dst (N := 7) rfl ?_); refine box_event ?hg6 (N := 7) ?hd6 (cs := #[.int .i64 0, .int .i64 0, .slice none 0 0, .int .i64 0]) (t := 24) ?hr6 ?_; (case hd6 => rfl); (case hg6 => rfl); (case hr6 => first | (go_simp; done) | (go_simp; rfl)); intro t6 hg9 W6 hbox hb; have NB := Aside0.mk hbox; have hb9 := Aside0.mk hb; obtain ⟨y0_, y1_, y2_, y3_⟩ := four hbox; have z0_ := blk_frozen hbox 0; have z1_ := blk_frozen hbox 1; have z2_ := blk_frozen hbox 2; have z3_ := blk_frozen hbox 3; have GE := Aside0.mk hg9; clear hbox hb hg9)
        | ((with_reducible refine gate_store (t := 24) (p := 7) rfl ?_); refine store_event (t := 24) (p := 7) (v := ?vo_) (w1 := (((W6.setCell ⟨t6, 0, none⟩ (.int .i64 st)).setCell ⟨t6, 1, none⟩ (.int .i64 n)).setCell ⟨t6, 2, none⟩ (.slice (some ⟨gn, 0, none⟩) l.length cn)).setCell ⟨t6, 3, none⟩ (.int .i64 rt)) ?hgs ?hos ?hns ?hrs ?_; (case hos => rfl); (case hgs => rfl); (case hns => rfl); (case hrs => first | (go_simp; done) | (go_simp; rfl)); rintro W5 rfl; have hb_ : Below W7.heap.size W7 ((((W6.setCell ⟨t6, 0, none⟩ (.int .i64 st)).setCell ⟨t6, 1, none⟩ (.int .i64 n)).setCell ⟨t6, 2, none⟩ (.slice (some ⟨gn, 0, none⟩) l.length cn)).setCell ⟨t6, 3, none⟩ (.int .i64 rt)) := below_set (below_set (below_set (below_set hb9.out (Nat.le_of_eq GE.out.symm)) (Nat.le_of_eq GE.out.symm)) (Nat.le_of_eq GE.out.symm)) (Nat.le_of_eq GE.out.symm); have nb_ := blk_put (blk_put (blk_put (blk_put NB.out 0 (.int .i64 st) rfl) 1 (.int .i64 n) rfl) 2 (.slice (some ⟨gn, 0, none⟩) l.length cn) rfl) 3 (.int .i64 rt) rfl; have F := Aside0.mk (TA.mk (k := .i64) (ty := 3) (vf := .slice none 0 0) (ys := []) (blk_below BX.out hb_) nb_ (LA.out.on hb_) (Kd.R_nil _ _ _ _ _) (HB.out.trans (hb_.mono HB.out.size))); clear y0_ y1_ y2_ y3_ z0_ z1_ z2_ z3_ HB BX LA NB hb9 GE hb_ nb_; generalize (((W6.setCell ⟨t6, 0, none⟩ (.int .i64 st)).setCell ⟨t6, 1, none⟩ (.int .i64 n)).setCell ⟨t6, 2, none⟩ (.slice (some ⟨gn, 0, none⟩) l.length cn)).setCell ⟨t6, 3, none⟩ (.int .i64 rt) = W5 at *)
        | ((with_reducible refine gate_builtin (b := .append) (xs := #[.tmp 34, .tmp 35]) rfl ?_); at_builtin; refine Kd.R_append_rows (Kd.int .i64) (w0 := w) w.heap.size rfl (.tmp 34) (.tmp 35) 47 3 (.int .i64 0) 8 rfl Tryd.underlying47 info3 rfl (by decide) (by omega) (.slice none 0 0) ([] : List Int) xs _ _ _ _ (fun _ => False) rfl rfl F.out.fu (Kd.C_below HX.out F.out.be) (fun _ _ h => h) (fun _ h => h.elim) F.out.new F.out.be F.out.be.size (by have := HS.out; simp; omega) ?_; intro v4 W4 ho hb hg hat; rw [List.nil_append] at ho; obtain ⟨A4, c4, rfl⟩ := Kd.R_slice ho; have F4 := Aside0.mk (F.out.grow (by decide) ho hb hg); clear F ho hb hg hat; have F := F4; clear F4)
        | ((with_reducible refine gate_builtin (b := .append) (xs := #[.tmp 37, .tmp 38]) rfl ?_); at_builtin; refine Kd.R_append_rows (Kd.int .i64) (w0 := w) w.heap.size rfl (.tmp 37) (.tmp 38) 47 3 (.int .i64 0) 8 rfl Tryd.underlying47 info3 rfl (by decide) (by omega) (.slice A4 xs.length c4) xs ([-71] : List Int) _ _ _ _ (fun _ => False) rfl rfl (Kd.R_alloc F.out.fu _) (lit_c (e := 3) .i64 [-71] (by decide)) (fun _ _ h => h) (fun _ h => h.elim) (fun q hq => F.out.new q (Nat.le_trans (by simp) hq)) (below_alloc F.out.be _) (Nat.le_trans F.out.be.size (by simp)) (by have := HS.out; simp; omega) ?_; intro v3 W3 ho hb hg hat; have F4 := Aside0.mk ((F.out.on (below_alloc (Below.refl _ _) _)).grow (by decide) ho hb hg); obtain ⟨gf, cf, hv_, _, _⟩ := Kd.R_form ho (by simp); rw [len1] at hv_; subst hv_; clear F ho hb hg hat; have F := F4; clear F4; obtain ⟨⟨a0_, a1_, a2_, a3_⟩, ⟨b0_, b1_, b2_, b3_⟩⟩ := F.out.cells))
      have cap_ : ((xs.length : Nat) : Int) ≤ (cf : Int) := by have := F.out.front.2; omega
      refine start_ (n := 11) (S := fun w' => w'.cell? ⟨t6, 0, none⟩ = some (.int .i64 st) ∧ w'.cell? ⟨t6, 1, none⟩ = some (.int .i64 n) ∧ w'.cell? ⟨t6, 2, none⟩ = some (.slice (some ⟨gn, 0, none⟩) l.length cn) ∧ w'.cell? ⟨t6, 3, none⟩ = some (.int .i64 rt)) (ds := []) #[false, false, false, false, false, false, false, false, false, false, false] (by kernel_rfl) rfl rfl F.out.cells.2 (fun hHeld => ?_)
      have FX := Aside0.mk (F.out.on (below_drew (Below.refl _ _)))
      generalize (World.drew _) = wx at FX hHeld ⊢
      clear F a0_ a1_ a2_ a3_ b0_ b1_ b2_ b3_
      refine take_ (i := 0) (N := (some 41)) (v := ?_) (a' := ?_) #[true, false, false, false, false, false, false, false, false, false, false] rfl rfl (by kernel_rfl) (fun _ _ _ h => h) (Or.inl ⟨by rfl, ?_⟩) hHeld ?_ ?_
      rotate_left
      · rintro w' ⟨s0, s1, s2, s3⟩
        go_simp
        with_reducible rfl
      rotate_left
      · simp only [Act.put, List.setIfInBounds_toArray, List.set_cons_zero, List.set_cons_succ, i64_w, i32_w]
        rfl
      refine pure_ (i := 1) (N := (some 42)) (v := ?_) (a' := ?_) #[true, true, false, false, false, false, false, false, false, false, false] rfl rfl (by kernel_rfl) (fun _ _ _ h => h) (Or.inl ⟨by rfl, ?_⟩) ?_ ?_
      rotate_left
      · intro w'
        go_simp
        with_reducible rfl
      rotate_left
      · simp only [Act.put, List.setIfInBounds_toArray, List.set_cons_zero, List.set_cons_succ, i64_w, i32_w]
        rfl
      refine pure_ (i := 2) (N := (some 43)) (v := ?_) (a' := ?_) #[true, true, true, false, false, false, false, false, false, false, false] rfl rfl (by kernel_rfl) (fun _ _ _ h => h) (Or.inl ⟨by rfl, ?_⟩) ?_ ?_
      rotate_left
      · intro w'
        go_simp
        with_reducible rfl
      rotate_left
      · simp only [Act.put, List.setIfInBounds_toArray, List.set_cons_zero, List.set_cons_succ, i64_w, i32_w]
        rfl
      refine pure_ (i := 3) (N := (some 44)) (v := ?_) (a' := ?_) #[true, true, true, true, false, false, false, false, false, false, false] rfl rfl (by kernel_rfl) (fun _ _ _ h => h) (Or.inl ⟨by rfl, ?_⟩) ?_ ?_
      rotate_left
      · intro w'
        go_simp
        with_reducible rfl
      rotate_left
      · simp only [Act.put, List.setIfInBounds_toArray, List.set_cons_zero, List.set_cons_succ, i64_w, i32_w]
        rfl
      refine pure_ (i := 4) (N := (some 45)) (v := ?_) (a' := ?_) #[true, true, true, true, true, false, false, false, false, false, false] rfl rfl (by kernel_rfl) (fun _ _ _ h => h) (Or.inl ⟨by rfl, ?_⟩) ?_ ?_
      rotate_left
      · intro w'
        go_simp
        with_reducible rfl
      rotate_left
      · simp only [Act.put, List.setIfInBounds_toArray, List.set_cons_zero, List.set_cons_succ, i64_w, i32_w]
        rfl
      refine one_ (i := 5) (N := (some 46)) #[true, true, true, true, true, true, false, false, false, false, false] rfl rfl (by kernel_rfl) (by decide) (fun K hK => ?_)
      refine goes_ Tryd.func40 (by kernel_rfl) rfl #[.agg #[.int .i64 st, .int .i64 n, .slice (some ⟨gn, 0, none⟩) l.length cn, .int .i64 rt], .slice (some ⟨gf, 0, none⟩) xs.length cf] (by rfl) rfl rfl (by (try simp only [List.map_toArray, List.map_cons, List.map_nil]); first | done | rfl) ?_
      with_reducible refine (cA.out wx (some ⟨gn, 0, none⟩) cn (some ⟨gf, 0, none⟩) cf (FX.out.la.reads (by have := HS.out; omega)) (Nat.le_of_add_right_le (own_cap FX.out.la.row)) FX.out.front.1 FX.out.front.2).mono ?_
      rintro en_ w3 ⟨rfl, hb⟩
      refine ⟨_, rfl, ?_⟩
      have F3 := Aside0.mk (FX.out.on hb)
      clear hb
      refine hK.out _ _ F3.out.cells.2 (fun hHeld => ?_)
      clear hK K
      refine pure_ (i := 6) (N := (some 40)) (v := ?_) (a' := ?_) #[true, true, true, true, true, true, true, false, false, false, false] rfl rfl (by kernel_rfl) (fun _ _ _ h => h) (Or.inl ⟨by rfl, ?_⟩) ?_ ?_
      rotate_left
      · intro w'
        go_simp
        with_reducible rfl
      rotate_left
      · simp only [Act.put, List.setIfInBounds_toArray, List.set_cons_zero, List.set_cons_succ, i64_w, i32_w]
        rfl
      refine pure_ (i := 7) (N := (some 47)) (v := ?_) (a' := ?_) #[true, true, true, true, true, true, true, true, false, false, false] rfl rfl (by kernel_rfl) (fun _ _ _ h => h) (Or.inl ⟨by rfl, ?_⟩) ?_ ?_
      rotate_left
      · intro w'
        go_simp
        with_reducible rfl
      rotate_left
      · simp only [Act.put, List.setIfInBounds_toArray, List.set_cons_zero, List.set_cons_succ, i64_w, i32_w]
        rfl
      refine pure_ (i := 8) (N := (some 48)) (v := ?_) (a' := ?_) #[true, true, true, true, true, true, true, true, true, false, false] rfl rfl (by kernel_rfl) (fun _ _ _ h => h) (Or.inl ⟨by rfl, ?_⟩) ?_ ?_
      rotate_left
      · intro w'
        go_simp
        with_reducible rfl
      rotate_left
      · simp only [Act.put, List.setIfInBounds_toArray, List.set_cons_zero, List.set_cons_succ, i64_w, i32_w]
        rfl
      refine pure_ (i := 9) (N := (some 9)) (v := ?_) (a' := ?_) #[true, true, true, true, true, true, true, true, true, true, false] rfl rfl (by kernel_rfl) (fun _ _ _ h => h) (Or.inl ⟨by rfl, ?_⟩) ?_ ?_
      rotate_left
      · intro w'
        go_simp
        with_reducible rfl
      rotate_left
      · simp only [Act.put, List.setIfInBounds_toArray, List.set_cons_zero, List.set_cons_succ, i64_w, i32_w]
        rfl
      refine pure_ (i := 10) (N := (some 10)) (v := ?_) (a' := ?_) #[true, true, true, true, true, true, true, true, true, true, true] rfl rfl (by kernel_rfl) (fun _ _ _ h => h) (Or.inl ⟨by rfl, ?_⟩) ?_ ?_
      rotate_left
      · intro w'
        go_simp
        with_reducible rfl
      rotate_left
      · simp only [Act.put, List.setIfInBounds_toArray, List.set_cons_zero, List.set_cons_succ, i64_w, i32_w]
        rfl
      refine done_ (by kernel_rfl) ?_
      have F := F3
      clear F3 FX
      obtain ⟨⟨a0_, a1_, a2_, a3_⟩, ⟨b0_, b1_, b2_, b3_⟩⟩ := F.out.cells
      go_wp2_with (first
        | (go_at_call 41; (with_reducible refine (cB.out _ A c A1 c1 (Kd.C_below HR.out F.out.be) HC.out (Kd.C_below HX.out F.out.be) HS.out.2.2).mono ?_); rintro e_ W2 ⟨rfl, hb⟩; have F4 := Aside0.mk (F.out.on hb); clear F hb; have F := F4; clear F4; clear a0_ a1_ a2_ a3_ b0_ b1_ b2_ b3_; obtain ⟨⟨a0_, a1_, a2_, a3_⟩, ⟨b0_, b1_, b2_, b3_⟩⟩ := F.out.cells)
        | (go_at_call 37; (with_reducible refine (cK.out _ _ _ _ _ F.out.la F.out.be).mono ?_); rintro e_ W2 ⟨rfl, hb⟩; have F4 := Aside0.mk (F.out.on hb); clear F hb; have F := F4; clear F4; clear a0_ a1_ a2_ a3_ b0_ b1_ b2_ b3_; obtain ⟨⟨a0_, a1_, a2_, a3_⟩, ⟨b0_, b1_, b2_, b3_⟩⟩ := F.out.cells))
      clear a0_ a1_ a2_ a3_ b0_ b1_ b2_ b3_
      go_loopg [14] xs.length (fun g_ s14 wq => ∃ (x : Int), s14 = .int .i64 x ∧ Aside0 (0 ≤ x ∧ (g_ : Int) = xs.length - x) ∧ Aside0 (TA w wq st n rt A c l t2 t6 gn cn K l .i64 3 (.slice (some ⟨gf, 0, none⟩) (xs.length + 1) cf) (xs ++ [-71])))
      case atStart => exact ⟨0, rfl, ⟨by omega, by omega⟩, F⟩
      case round =>
        clear F
        obtain ⟨x, rfl, HX2, F⟩ := hrel
        by_cases q : x < (xs.length : Int)
        case pos =>
          have p0 : 0 ≤ x := HX2.out.1
          have w1_ := wrap_small (x + 1) (by omega) (by have := HS.out; omega)
          have r_ : x < (xs.length : Int) + 1 := by omega
          obtain ⟨adf, ef, u0_⟩ := Kd.at_int F.out.front.1 x p0 q
          obtain rfl : (⟨gf, 0, none⟩ : Addr) = adf := Option.some.inj ef
          rw [addr_add] at u0_
          obtain ⟨ad1, rfl, u1_⟩ := Kd.at_int (Kd.C_below HX.out F.out.be) x p0 q
          generalize rd xs x = v at *
          have HU := Aside0.mk (show wr.cell? ⟨gf, x.toNat, none⟩ = some (.int .i64 v) ∧ wr.cell? (ad1.add x.toNat) = some (.int .i64 v) from ⟨u0_, u1_⟩)
          clear u0_ u1_ ef
          go_upto_region 15 with fail
          refine start_ (n := 9) (S := fun w' => w'.cell? ⟨gf, x.toNat, none⟩ = some (.int .i64 v) ∧ w'.cell? (ad1.add x.toNat) = some (.int .i64 v)) (ds := []) #[false, false, false, false, false, false, false, false, false] (by kernel_rfl) rfl rfl HU.out (fun hHeld => ?_)
          have FX := Aside0.mk (F.out.on (below_drew (Below.refl _ _)))
          generalize (World.drew _) = wx at FX hHeld ⊢
          clear F HU
          refine pure_ (i := 0) (N := (some 64)) (v := ?_) (a' := ?_) #[true, false, false, false, false, false, false, false, false] rfl rfl (by kernel_rfl) (fun _ _ _ h => h) (Or.inl ⟨by rfl, ?_⟩) ?_ ?_
          rotate_left
          · intro w'
            go_simp
            with_reducible rfl
          rotate_left
          · simp only [Act.put, List.setIfInBounds_toArray, List.set_cons_zero, List.set_cons_succ, i64_w, i32_w]
            rfl
          refine pure_ (i := 1) (N := (some 65)) (v := ?_) (a' := ?_) #[true, true, false, false, false, false, false, false, false] rfl rfl (by kernel_rfl) (fun _ _ _ h => h) (Or.inl ⟨by rfl, ?_⟩) ?_ ?_
          rotate_left
          · intro w'
            go_simp
            with_reducible rfl
          rotate_left
          · simp only [Act.put, List.setIfInBounds_toArray, List.set_cons_zero, List.set_cons_succ, i64_w, i32_w]
            rfl
          refine pure_ (i := 2) (N := (some 66)) (v := ?_) (a' := ?_) #[true, true, true, false, false, false, false, false, false] rfl rfl (by kernel_rfl) (fun _ _ _ h => h) (Or.inl ⟨by rfl, ?_⟩) ?_ ?_
          rotate_left
          · intro w'
            go_simp
            with_reducible rfl
          rotate_left
          · simp only [Act.put, List.setIfInBounds_toArray, List.set_cons_zero, List.set_cons_succ, i64_w, i32_w]
            rfl
          refine take_ (i := 3) (N := (some 67)) (v := ?_) (a' := ?_) #[true, true, true, true, false, false, false, false, false] rfl rfl (by kernel_rfl) (fun _ _ _ h => h) (Or.inl ⟨by rfl, ?_⟩) hHeld ?_ ?_
          rotate_left
          · rintro w' ⟨s0, s1⟩
            go_simp
            with_reducible rfl
          rotate_left
          · simp only [Act.put, List.setIfInBounds_toArray, List.set_cons_zero, List.set_cons_succ, i64_w, i32_w]
            rfl
          refine pure_ (i := 4) (N := (some 68)) (v := ?_) (a' := ?_) #[true, true, true, true, true, false, false, false, false] rfl rfl (by kernel_rfl) (fun _ _ _ h => h) (Or.inl ⟨by rfl, ?_⟩) ?_ ?_
          rotate_left
          · intro w'
            go_simp
            with_reducible rfl
          rotate_left
          · simp only [Act.put, List.setIfInBounds_toArray, List.set_cons_zero, List.set_cons_succ, i64_w, i32_w]
            rfl
          refine pure_ (i := 5) (N := (some 69)) (v := ?_) (a' := ?_) #[true, true, true, true, true, true, false, false, false] rfl rfl (by kernel_rfl) (fun _ _ _ h => h) (Or.inl ⟨by rfl, ?_⟩) ?_ ?_
          rotate_left
          · intro w'
            go_simp
            with_reducible rfl
          rotate_left
          · simp only [Act.put, List.setIfInBounds_toArray, List.set_cons_zero, List.set_cons_succ, i64_w, i32_w]
            rfl
          refine pure_ (i := 6) (N := (some 70)) (v := ?_) (a' := ?_) #[true, true, true, true, true, true, true, false, false] rfl rfl (by kernel_rfl) (fun _ _ _ h => h) (Or.inl ⟨by rfl, ?_⟩) ?_ ?_
          rotate_left
          · intro w'
            go_simp
            with_reducible rfl
          rotate_left
          · simp only [Act.put, List.setIfInBounds_toArray, List.set_cons_zero, List.set_cons_succ, i64_w, i32_w]
            rfl
          refine take_ (i := 7) (N := (some 71)) (v := ?_) (a' := ?_) #[true, true, true, true, true, true, true, true, false] rfl rfl (by kernel_rfl) (fun _ _ _ h => h) (Or.inl ⟨by rfl, ?_⟩) hHeld ?_ ?_
          rotate_left
          · rintro w' ⟨s0, s1⟩
            go_simp
            with_reducible rfl
          rotate_left
          · simp only [Act.put, List.setIfInBounds_toArray, List.set_cons_zero, List.set_cons_succ, i64_w, i32_w]
            rfl
          refine pure_ (i := 8) (N := (some 72)) (v := ?_) (a' := ?_) #[true, true, true, true, true, true, true, true, true] rfl rfl (by kernel_rfl) (fun _ _ _ h => h) (Or.inl ⟨by rfl, ?_⟩) ?_ ?_
          rotate_left
          · intro w'
            go_simp
            with_reducible rfl
          rotate_left
          · simp only [Act.put, List.setIfInBounds_toArray, List.set_cons_zero, List.set_cons_succ, i64_w, i32_w]
            rfl
          refine done_ (by kernel_rfl) ?_
          go_wp2
          go_roundg (xs.length - (x + 1).toNat)
          case measure => go_light; have := HX2.out; omega
          case rel =>
            go_light
            exact ⟨x + 1, by simp [w1_], ⟨by omega, by have := HX2.out; omega⟩, FX⟩
        case neg =>
          have m0_ := F.out.mark1
          go_wp2
          go_ret
          exact ⟨by simp, F.out.be⟩
  case neg =>
    go_upto_region 9 with (first
      | (go_at_call 35; (with_reducible refine (cL.out _ HB.out).mono ?_); rintro e_ W7 ⟨gn, cn, K, rfl, hl_, hb⟩; have LA := Aside0.mk (hl_.lower HB.out.size); have n_ := below_step HB.out hb; have m_ := blk_below BX.out hb; clear HB BX gc0 gc1 gc2 gc3; have HB := Aside0.mk n_; have BX := Aside0.mk m_; clear n_ m_ hl_ hb)
      | ((with_reducible refine gate_dst (N := 7) rfl ?_); refine box_event ?hg6 (N := 7) ?hd6 (cs := #[.int .i64 0, .int .i64 0, .slice none 0 0, .int .i64 0]) (t := 24) ?hr6 ?_; (case hd6 => rfl); (case hg6 => rfl); (case hr6 => first | (go_simp; done) | (go_simp; rfl)); intro t6 hg9 W6 hbox hb; have NB := Aside0.mk hbox; have hb9 := Aside0.mk hb; obtain ⟨y0_, y1_, y2_, y3_⟩ := four hbox; have z0_ := blk_frozen hbox 0; have z1_ := blk_frozen hbox 1; have z2_ := blk_frozen hbox 2; have z3_ := blk_frozen hbox 3; have GE := Aside0.mk hg9; clear hbox hb hg9)
      | ((with_reducible refine gate_store (t := 24) (p := 7) rfl ?_); refine store_event (t := 24) (p := 7) (v := ?vo_) (w1 := (((W6.setCell ⟨t6, 0, none⟩ (.int .i64 st)).setCell ⟨t6, 1, none⟩ (.int .i64 n)).setCell ⟨t6, 2, none⟩ (.slice (some ⟨gn, 0, none⟩) l.length cn)).setCell ⟨t6, 3, none⟩ (.int .i64 rt)) ?hgs ?hos ?hns ?hrs ?_; (case hos => rfl); (case hgs => rfl); (case hns => rfl); (case hrs => first | (go_simp; done) | (go_simp; rfl)); rintro W5 rfl; have hb_ : Below W7.heap.size W7 ((((W6.setCell ⟨t6, 0, none⟩ (.int .i64 st)).setCell ⟨t6, 1, none⟩ (.int .i64 n)).setCell ⟨t6, 2, none⟩ (.slice (some ⟨gn, 0, none⟩) l.length cn)).setCell ⟨t6, 3, none⟩ (.int .i64 rt)) := below_set (below_set (below_set (below_set hb9.out (Nat.le_of_eq GE.out.symm)) (Nat.le_of_eq GE.out.symm)) (Nat.le_of_eq GE.out.symm)) (Nat.le_of_eq GE.out.symm); have nb_ := blk_put (blk_put (blk_put (blk_put NB.out 0 (.int .i64 st) rfl) 1 (.int .i64 n) rfl) 2 (.slice (some ⟨gn, 0, none⟩) l.length cn) rfl) 3 (.int .i64 rt) rfl; have F := Aside0.mk (TA.mk (k := .i64) (ty := 3) (vf := .slice none 0 0) (ys := []) (blk_below BX.out hb_) nb_ (LA.out.on hb_) (Kd.R_nil _ _ _ _ _) (HB.out.trans (hb_.mono HB.out.size))); clear y0_ y1_ y2_ y3_ z0_ z1_ z2_ z3_ HB BX LA NB hb9 GE hb_ nb_; generalize (((W6.setCell ⟨t6, 0, none⟩ (.int .i64 st)).setCell ⟨t6, 1, none⟩ (.int .i64 n)).setCell ⟨t6, 2, none⟩ (.slice (some ⟨gn, 0, none⟩) l.length cn)).setCell ⟨t6, 3, none⟩ (.int .i64 rt) = W5 at *)
      | ((with_reducible refine gate_builtin (b := .append) (xs := #[.tmp 34, .tmp 35]) rfl ?_); at_builtin; refine Kd.R_append_rows (Kd.int .i64) (w0 := w) w.heap.size rfl (.tmp 34) (.tmp 35) 47 3 (.int .i64 0) 8 rfl Tryd.underlying47 info3 rfl (by decide) (by omega) (.slice none 0 0) ([] : List Int) xs _ _ _ _ (fun _ => False) rfl rfl F.out.fu (Kd.C_below HX.out F.out.be) (fun _ _ h => h) (fun _ h => h.elim) F.out.new F.out.be F.out.be.size (by have := HS.out; simp; omega) ?_; intro v4 W4 ho hb hg hat; rw [List.nil_append] at ho; obtain ⟨A4, c4, rfl⟩ := Kd.R_slice ho; have F4 := Aside0.mk (F.out.grow (by decide) ho hb hg); clear F ho hb hg hat; have F := F4; clear F4)
      | ((with_reducible refine gate_builtin (b := .append) (xs := #[.tmp 37, .tmp 38]) rfl ?_); at_builtin; refine Kd.R_append_rows (Kd.int .i64) (w0 := w) w.heap.size rfl (.tmp 37) (.tmp 38) 47 3 (.int .i64 0) 8 rfl Tryd.underlying47 info3 rfl (by decide) (by omega) (.slice A4 xs.length c4) xs ([-71] : List Int) _ _ _ _ (fun _ => False) rfl rfl (Kd.R_alloc F.out.fu _) (lit_c (e := 3) .i64 [-71] (by decide)) (fun _ _ h => h) (fun _ h => h.elim) (fun q hq => F.out.new q (Nat.le_trans (by simp) hq)) (below_alloc F.out.be _) (Nat.le_trans F.out.be.size (by simp)) (by have := HS.out; simp; omega) ?_; intro v3 W3 ho hb hg hat; have F4 := Aside0.mk ((F.out.on (below_alloc (Below.refl _ _) _)).grow (by decide) ho hb hg); obtain ⟨gf, cf, hv_, _, _⟩ := Kd.R_form ho (by simp); rw [len1] at hv_; subst hv_; clear F ho hb hg hat; have F := F4; clear F4; obtain ⟨⟨a0_, a1_, a2_, a3_⟩, ⟨b0_, b1_, b2_, b3_⟩⟩ := F.out.cells))
    have cap_ : ((xs.length : Nat) : Int) ≤ (cf : Int) := by have := F.out.front.2; omega
    refine start_ (n := 11) (S := fun w' => w'.cell? ⟨t6, 0, none⟩ = some (.int .i64 st) ∧ w'.cell? ⟨t6, 1, none⟩ = some (.int .i64 n) ∧ w'.cell? ⟨t6, 2, none⟩ = some (.slice (some ⟨gn, 0, none⟩) l.length cn) ∧ w'.cell? ⟨t6, 3, none⟩ = some (.int .i64 rt)) (ds := []) #[false, false, false, false, false, false, false, false, false, false, false] (by kernel_rfl) rfl rfl F.out.cells.2 (fun hHeld => ?_)
    have FX := Aside0.mk (F.out.on (below_drew (Below.refl _ _)))
    generalize (World.drew _) = wx at FX hHeld ⊢
    clear F a0_ a1_ a2_ a3_ b0_ b1_ b2_ b3_
    refine take_ (i := 0) (N := (some 41)) (v := ?_) (a' := ?_) #[true, false, false, false, false, false, false, false, false, false, false] rfl rfl (by kernel_rfl) (fun _ _ _ h => h) (Or.inl ⟨by rfl, ?_⟩) hHeld ?_ ?_
    rotate_left
    · rintro w' ⟨s0, s1, s2, s3⟩
      go_simp
      with_reducible rfl
    rotate_left
    · simp only [Act.put, List.setIfInBounds_toArray, List.set_cons_zero, List.set_cons_succ, i64_w, i32_w]
      rfl
    refine pure_ (i := 1) (N := (some 42)) (v := ?_) (a' := ?_) #[true, true, false, false, false, false, false, false, false, false, false] rfl rfl (by kernel_rfl) (fun _ _ _ h => h) (Or.inl ⟨by rfl, ?_⟩) ?_ ?_
    rotate_left
    · intro w'
      go_simp
      with_reducible rfl
    rotate_left
    · simp only [Act.put, List.setIfInBounds_toArray, List.set_cons_zero, List.set_cons_succ, i64_w, i32_w]
      rfl
    refine pure_ (i := 2) (N := (some 43)) (v := ?_) (a' := ?_) #[true, true, true, false, false, false, false, false, false, false, false] rfl rfl (by kernel_rfl) (fun _ _ _ h => h) (Or.inl ⟨by rfl, ?_⟩) ?_ ?_
    rotate_left
    · intro w'
      go_simp
      with_reducible rfl
    rotate_left
    · simp only [Act.put, List.setIfInBounds_toArray, List.set_cons_zero, List.set_cons_succ, i64_w, i32_w]
      rfl
    refine pure_ (i := 3) (N := (some 44)) (v := ?_) (a' := ?_) #[true, true, true, true, false, false, false, false, false, false, false] rfl rfl (by kernel_rfl) (fun _ _ _ h => h) (Or.inl ⟨by rfl, ?_⟩) ?_ ?_
    rotate_left
    · intro w'
      go_simp
      with_reducible rfl
    rotate_left
    · simp only [Act.put, List.setIfInBounds_toArray, List.set_cons_zero, List.set_cons_succ, i64_w, i32_w]
      rfl
    refine pure_ (i := 4) (N := (some 45)) (v := ?_) (a' := ?_) #[true, true, true, true, true, false, false, false, false, false, false] rfl rfl (by kernel_rfl) (fun _ _ _ h => h) (Or.inl ⟨by rfl, ?_⟩) ?_ ?_
    rotate_left
    · intro w'
      go_simp
      with_reducible rfl
    rotate_left
    · simp only [Act.put, List.setIfInBounds_toArray, List.set_cons_zero, List.set_cons_succ, i64_w, i32_w]
      rfl
    refine one_ (i := 5) (N := (some 46)) #[true, true, true, true, true, true, false, false, false, false, false] rfl rfl (by kernel_rfl) (by decide) (fun K hK => ?_)
    refine goes_ Tryd.func40 (by kernel_rfl) rfl #[.agg #[.int .i64 st, .int .i64 n, .slice (some ⟨gn, 0, none⟩) l.length cn, .int .i64 rt], .slice (some ⟨gf, 0, none⟩) xs.length cf] (by rfl) rfl rfl (by (try simp only [List.map_toArray, List.map_cons, List.map_nil]); first | done | rfl) ?_
    with_reducible refine (cA.out wx (some ⟨gn, 0, none⟩) cn (some ⟨gf, 0, none⟩) cf (FX.out.la.reads (by have := HS.out; omega)) (Nat.le_of_add_right_le (own_cap FX.out.la.row)) FX.out.front.1 FX.out.front.2).mono ?_
    rintro en_ w3 ⟨rfl, hb⟩
    refine ⟨_, rfl, ?_⟩
    have F3 := Aside0.mk (FX.out.on hb)
    clear hb
    refine hK.out _ _ F3.out.cells.2 (fun hHeld => ?_)
    clear hK K
    refine pure_ (i := 6) (N := (some 40)) (v := ?_) (a' := ?_) #[true, true, true, true, true, true, true, false, false, false, false] rfl rfl (by kernel_rfl) (fun _ _ _ h => h) (Or.inl ⟨by rfl, ?_⟩) ?_ ?_
    rotate_left
    · intro w'
      go_simp
      with_reducible rfl
    rotate_left
    · simp only [Act.put, List.setIfInBounds_toArray, List.set_cons_zero, List.set_cons_succ, i64_w, i32_w]
      rfl
    refine pure_ (i := 7) (N := (some 47)) (v := ?_) (a' := ?_) #[true, true, true, true, true, true, true, true, false, false, false] rfl rfl (by kernel_rfl) (fun _ _ _ h => h) (Or.inl ⟨by rfl, ?_⟩) ?_ ?_
    rotate_left
    · intro w'
      go_simp
      with_reducible rfl
    rotate_left
    · simp only [Act.put, List.setIfInBounds_toArray, List.set_cons_zero, List.set_cons_succ, i64_w, i32_w]
      rfl
    refine pure_ (i := 8) (N := (some 48)) (v := ?_) (a' := ?_) #[true, true, true, true, true, true, true, true, true, false, false] rfl rfl (by kernel_rfl) (fun _ _ _ h => h) (Or.inl ⟨by rfl, ?_⟩) ?_ ?_
    rotate_left
    · intro w'
      go_simp
      with_reducible rfl
    rotate_left
    · simp only [Act.put, List.setIfInBounds_toArray, List.set_cons_zero, List.set_cons_succ, i64_w, i32_w]
      rfl
    refine pure_ (i := 9) (N := (some 9)) (v := ?_) (a' := ?_) #[true, true, true, true, true, true, true, true, true, true, false] rfl rfl (by kernel_rfl) (fun _ _ _ h => h) (Or.inl ⟨by rfl, ?_⟩) ?_ ?_
    rotate_left
    · intro w'
      go_simp
      with_reducible rfl
    rotate_left
    · simp only [Act.put, List.setIfInBounds_toArray, List.set_cons_zero, List.set_cons_succ, i64_w, i32_w]
      rfl
    refine pure_ (i := 10) (N := (some 10)) (v := ?_) (a' := ?_) #[true, true, true, true, true, true, true, true, true, true, true] rfl rfl (by kernel_rfl) (fun _ _ _ h => h) (Or.inl ⟨by rfl, ?_⟩) ?_ ?_
    rotate_left
    · intro w'
      go_simp
      with_reducible rfl
    rotate_left
    · simp only [Act.put, List.setIfInBounds_toArray, List.set_cons_zero, List.set_cons_succ, i64_w, i32_w]
      rfl
    refine done_ (by kernel_rfl) ?_
    have F := F3
    clear F3 FX
    obtain ⟨⟨a0_, a1_, a2_, a3_⟩, ⟨b0_, b1_, b2_, b3_⟩⟩ := F.out.cells
    go_wp2_with (first
      | (go_at_call 41; (with_reducible refine (cB.out _ A c A1 c1 (Kd.C_below HR.out F.out.be) HC.out (Kd.C_below HX.out F.out.be) HS.out.2.2).mono ?_); rintro e_ W2 ⟨rfl, hb⟩; have F4 := Aside0.mk (F.out.on hb); clear F hb; have F := F4; clear F4; clear a0_ a1_ a2_ a3_ b0_ b1_ b2_ b3_; obtain ⟨⟨a0_, a1_, a2_, a3_⟩, ⟨b0_, b1_, b2_, b3_⟩⟩ := F.out.cells)
      | (go_at_call 37; (with_reducible refine (cK.out _ _ _ _ _ F.out.la F.out.be).mono ?_); rintro e_ W2 ⟨rfl, hb⟩; have F4 := Aside0.mk (F.out.on hb); clear F hb; have F := F4; clear F4; clear a0_ a1_ a2_ a3_ b0_ b1_ b2_ b3_; obtain ⟨⟨a0_, a1_, a2_, a3_⟩, ⟨b0_, b1_, b2_, b3_⟩⟩ := F.out.cells))
    clear a0_ a1_ a2_ a3_ b0_ b1_ b2_ b3_
    go_loopg [14] xs.length (fun g_ s14 wq => ∃ (x : Int), s14 = .int .i64 x ∧ Aside0 (0 ≤ x ∧ (g_ : Int) = xs.length - x) ∧ Aside0 (TA w wq st n rt A c l t2 t6 gn cn K l .i64 3 (.slice (some ⟨gf, 0, none⟩) (xs.length + 1) cf) (xs ++ [-71])))
    case atStart => exact ⟨0, rfl, ⟨by omega, by omega⟩, F⟩
    case round =>
      clear F
      obtain ⟨x, rfl, HX2, F⟩ := hrel
      by_cases q : x < (xs.length : Int)
      case pos =>
        have p0 : 0 ≤ x := HX2.out.1
        have w1_ := wrap_small (x + 1) (by omega) (by have := HS.out; omega)
        have r_ : x < (xs.length : Int) + 1 := by omega
        obtain ⟨adf, ef, u0_⟩ := Kd.at_int F.out.front.1 x p0 q
        obtain rfl : (⟨gf, 0, none⟩ : Addr) = adf := Option.some.inj ef
        rw [addr_add] at u0_
        obtain ⟨ad1, rfl, u1_⟩ := Kd.at_int (Kd.C_below HX.out F.out.be) x p0 q
        generalize rd xs x = v at *
        have HU := Aside0.mk (show wr.cell? ⟨gf, x.toNat, none⟩ = some (.int .i64 v) ∧ wr.cell? (ad1.add x.toNat) = some (.int .i64 v) from ⟨u0_, u1_⟩)
        clear u0_ u1_ ef
        go_upto_region 15 with fail
        refine start_ (n := 9) (S := fun w' => w'.cell? ⟨gf, x.toNat, none⟩ = some (.int .i64 v) ∧ w'.cell? (ad1.add x.toNat) = some (.int .i64 v)) (ds := []) #[false, false, false, false, false, false, false, false, false] (by kernel_rfl) rfl rfl HU.out (fun hHeld => ?_)
        have FX := Aside0.mk (F.out.on (below_drew (Below.refl _ _)))
        generalize (World.drew _) = wx at FX hHeld ⊢
        clear F HU
        refine pure_ (i := 0) (N := (some 64)) (v := ?_) (a' := ?_) #[true, false, false, false, false, false, false, false, false] rfl rfl (by kernel_rfl) (fun _ _ _ h => h) (Or.inl ⟨by rfl, ?_⟩) ?_ ?_
        rotate_left
        · intro w'
          go_simp
          with_reducible rfl
        rotate_left
        · simp only [Act.put, List.setIfInBounds_toArray, List.set_cons_zero, List.set_cons_succ, i64_w, i32_w]
          rfl
        refine pure_ (i := 1) (N := (some 65)) (v := ?_) (a' := ?_) #[true, true, false, false, false, false, false, false, false] rfl rfl (by kernel_rfl) (fun _ _ _ h => h) (Or.inl ⟨by rfl, ?_⟩) ?_ ?_
        rotate_left
        · intro w'
          go_simp
          with_reducible rfl
        rotate_left
        · simp only [Act.put, List.setIfInBounds_toArray, List.set_cons_zero, List.set_cons_succ, i64_w, i32_w]
          rfl
        refine pure_ (i := 2) (N := (some 66)) (v := ?_) (a' := ?_) #[true, true, true, false, false, false, false, false, false] rfl rfl (by kernel_rfl) (fun _ _ _ h => h) (Or.inl ⟨by rfl, ?_⟩) ?_ ?_
        rotate_left
        · intro w'
          go_simp
          with_reducible rfl
        rotate_left
        · simp only [Act.put, List.setIfInBounds_toArray, List.set_cons_zero, List.set_cons_succ, i64_w, i32_w]
          rfl
        refine take_ (i := 3) (N := (some 67)) (v := ?_) (a' := ?_) #[true, true, true, true, false, false, false, false, false] rfl rfl (by kernel_rfl) (fun _ _ _ h => h) (Or.inl ⟨by rfl, ?_⟩) hHeld ?_ ?_
        rotate_left
        · rintro w' ⟨s0, s1⟩
          go_simp
          with_reducible rfl
        rotate_left
        · simp only [Act.put, List.setIfInBounds_toArray, List.set_cons_zero, List.set_cons_succ, i64_w, i32_w]
          rfl
        refine pure_ (i := 4) (N := (some 68)) (v := ?_) (a' := ?_) #[true, true, true, true, true, false, false, false, false] rfl rfl (by kernel_rfl) (fun _ _ _ h => h) (Or.inl ⟨by rfl, ?_⟩) ?_ ?_
        rotate_left
        · intro w'
          go_simp
          with_reducible rfl
        rotate_left
        · simp only [Act.put, List.setIfInBounds_toArray, List.set_cons_zero, List.set_cons_succ, i64_w, i32_w]
          rfl
        refine pure_ (i := 5) (N := (some 69)) (v := ?_) (a' := ?_) #[true, true, true, true, true, true, false, false, false] rfl rfl (by kernel_rfl) (fun _ _ _ h => h) (Or.inl ⟨by rfl, ?_⟩) ?_ ?_
        rotate_left
        · intro w'
          go_simp
          with_reducible rfl
        rotate_left
        · simp only [Act.put, List.setIfInBounds_toArray, List.set_cons_zero, List.set_cons_succ, i64_w, i32_w]
          rfl
        refine pure_ (i := 6) (N := (some 70)) (v := ?_) (a' := ?_) #[true, true, true, true, true, true, true, false, false] rfl rfl (by kernel_rfl) (fun _ _ _ h => h) (Or.inl ⟨by rfl, ?_⟩) ?_ ?_
        rotate_left
        · intro w'
          go_simp
          with_reducible rfl
        rotate_left
        · simp only [Act.put, List.setIfInBounds_toArray, List.set_cons_zero, List.set_cons_succ, i64_w, i32_w]
          rfl
        refine take_ (i := 7) (N := (some 71)) (v := ?_) (a' := ?_) #[true, true, true, true, true, true, true, true, false] rfl rfl (by kernel_rfl) (fun _ _ _ h => h) (Or.inl ⟨by rfl, ?_⟩) hHeld ?_ ?_
        rotate_left
        · rintro w' ⟨s0, s1⟩
          go_simp
          with_reducible rfl
        rotate_left
        · simp only [Act.put, List.setIfInBounds_toArray, List.set_cons_zero, List.set_cons_succ, i64_w, i32_w]
          rfl
        refine pure_ (i := 8) (N := (some 72)) (v := ?_) (a' := ?_) #[true, true, true, true, true, true, true, true, true] rfl rfl (by kernel_rfl) (fun _ _ _ h => h) (Or.inl ⟨by rfl, ?_⟩) ?_ ?_
        rotate_left
        · intro w'
          go_simp
          with_reducible rfl
        rotate_left
        · simp only [Act.put, List.setIfInBounds_toArray, List.set_cons_zero, List.set_cons_succ, i64_w, i32_w]
          rfl
        refine done_ (by kernel_rfl) ?_
        go_wp2
        go_roundg (xs.length - (x + 1).toNat)
        case measure => go_light; have := HX2.out; omega
        case rel =>
          go_light
          exact ⟨x + 1, by simp [w1_], ⟨by omega, by have := HX2.out; omega⟩, FX⟩
      case neg =>
        have m0_ := F.out.mark1
        go_wp2
        go_ret
        exact ⟨by simp, F.out.be⟩
end Go.Proofs.YtbnonnogkgbpiaaDoor.LentT
end
section
namespace Go.Proofs.YtbnonnogkgbpiaaDoor.OpenTree
open Go Go.RowKit Go.ChangeShapes Go.WideShapes Go.Deep Go.Proofs.YtbnonnogkgbpiaaDoorW.PrintWords Go.Proofs.YtbnonnogkgbpiaaDoor.PT Go.Proofs.YtbnonnogkgbpiaaDoor.TreePlain
set_option linter.unusedVariables false
set_option linter.unusedSimpArgs false
set_option maxRecDepth 100000
theorem cells5 : Tryd.prog.cellsOf 5 = 1 := by kernel_rfl
theorem cells47 : Tryd.prog.cellsOf 47 = 1 := by kernel_rfl
theorem cells49 : Tryd.prog.cellsOf 49 = 2 := by kernel_rfl
theorem bulk_pos {H : Type} (d : DataW H) : 1 ≤ Rows.uptoBulk d := by
  cases d with
  | lit l => cases l <;> simp [Rows.uptoBulk]
  | _ => simp [Rows.uptoBulk]
theorem bulk_mem {H : Type} : ∀ (l : List (DataW H)) (d : DataW H), d ∈ l → Rows.uptoBulk d ≤ Rows.uptoBulkAll l
  | x :: l, d, h => by
    simp only [Rows.uptoBulkAll]
    rcases List.mem_cons.1 h with rfl | h
    · omega
    · have := bulk_mem l d h
      omega
theorem bulk_len {H : Type} : ∀ (l : List (DataW H)), l.length ≤ Rows.uptoBulkAll l
  | [] => Nat.zero_le _
  | x :: l => by
    simp only [Rows.uptoBulkAll, List.length_cons]
    have := bulk_len l
    have := bulk_pos x
    omega
theorem bulk_slice {H : Type} (e s : List (DataW H)) : e.length ≤ Rows.uptoBulk (.slice e s) := by
  simp only [Rows.uptoBulk]
  have := bulk_len e
  omega
def wfs (l : List Int) : Prop := ∀ v ∈ l, (Lit.int .i64 v).wf = true
section
variable {H : Type} {enc : TypeId × Value → H} {w : World} {base n : Nat} {held : Bool}
theorem open_ints' {k : IntKind} {t e : TypeId} {v : Value} {x : DataW H × List MemPlace} {spare : Nat → Bool} (ht : Tryd.prog.underlying t = some (.slice e)) (he : Tryd.prog.underlying e = some (.int k)) (hc : Tryd.prog.cellsOf e = 1)
    (h : DataW.trod enc Tryd.prog w base spare held n t [v] = some x) : ∃ (A : Option Addr) (c : Nat) (zs : List Int), v = .slice A zs.length c ∧ zs.length ≤ c ∧ Kd.C (Kd.int k) w A zs.length zs ∧ (∀ v ∈ zs, (Lit.int k v).wf = true) ∧ (zs.length = 0 ∨ ∃ elems rest, elems.length = zs.length ∧ x.1 = .slice elems rest) := by
  rcases Go.ChangeShapes.open_ints ht he hc h with ⟨h1, _⟩ | ⟨a, len, cap, zs, h1, _, hl, hm, hz, hx, hcell, hwf⟩
  · obtain rfl : v = .slice none 0 0 := by simpa using h1
    exact ⟨none, 0, [], rfl, Nat.le_refl _, Kd.C_nil _ _, fun v hv => by simp at hv, .inl rfl⟩
  · obtain rfl : v = .slice (some a) len cap := by simpa using h1
    have hzl : len ≤ zs.length := by rw [hz]; split <;> omega
    have hlen : (zs.take len).length = len := by simp; omega
    refine ⟨some a, cap, zs.take len, by rw [hlen], by rw [hlen]; exact hl, ⟨rfl, by rw [hlen]; simp [maxLen] at hm; omega, fun _ => ⟨a, rfl, fun j p hj => ⟨[.int k p], rfl, rfl, fun i u hu => ?_⟩⟩⟩, fun q hq => hwf q (List.mem_of_mem_take hq), .inr ⟨_, _, ?_, by rw [hx]⟩⟩
    · have hj' : j < len := by
        have := (List.getElem?_eq_some_iff.1 hj).1
        omega
      have hp : zs[j]? = some p := by rwa [List.getElem?_take_of_lt hj'] at hj
      match i, hu with
      | 0, hu =>
        obtain rfl : Value.int k p = u := by simpa using hu
        have := hcell j (by omega)
        rw [List.getD_eq_getElem?_getD, hp] at this
        simpa [Kd.int, Kd.scalar] using this
      | i + 1, hu => simp at hu
    · simp [Go.ChangeShapes.lits]
theorem open_list {k : IntKind} {t e : TypeId} {v : Value} {r : Reach} {b0 : Nat} {d : DataW H} {p : List MemPlace} (ht : Tryd.prog.underlying t = some (.slice e)) (he : Tryd.prog.underlying e = some (.int k)) (hc : Tryd.prog.cellsOf e = 1)
    (hv : Value.okWide Tryd.prog w r b0 t v) (h : DataW.Trod enc Tryd.prog w base (fun _ => true) held t v d p) (hbk : Rows.uptoBulk d ≤ 1048576) :
    ∃ (A : Option Addr) (c : Nat) (zs : List Int), v = .slice A zs.length c ∧ zs.length ≤ c ∧ Kd.C (Kd.int k) w A zs.length zs ∧ (∀ v ∈ zs, (Lit.int k v).wf = true) ∧ zs.length ≤ 1048576 := by
  obtain ⟨a0, len0, cap0, rfl⟩ := okWide_slice ht hv
  obtain ⟨fuel, hf⟩ := h
  obtain ⟨A, c, zs, e1, h1, h2, h3, h4⟩ := open_ints' ht he hc hf
  refine ⟨A, c, zs, e1, h1, h2, h3, ?_⟩
  rcases h4 with h0 | ⟨el, sp, hel, hd⟩
  · omega
  · have hd : d = .slice el sp := hd
    have := bulk_slice el sp
    rw [hd] at hbk
    omega
theorem choose_lt {α : Type} [Inhabited α] {P : Nat → α → Prop} : ∀ {m : Nat}, (∀ i, i < m → ∃ q, P i q) → ∃ f : Nat → α, ∀ i, i < m → P i (f i)
  | 0, _ => ⟨fun _ => default, fun i hi => absurd hi (Nat.not_lt_zero i)⟩
  | m + 1, h => by
    obtain ⟨f, hf⟩ := choose_lt (m := m) (fun i hi => h i (by omega))
    obtain ⟨q, hq⟩ := h m (Nat.lt_succ_self m)
    refine ⟨fun i => if i = m then q else f i, fun i hi => ?_⟩
    by_cases e : i = m
    · subst e
      simpa using hq
    · simp only [if_neg e]
      exact hf i (by omega)
theorem open_nodes {v : Value} {x : DataW H × List MemPlace} (hbk : Rows.uptoBulk x.1 ≤ 1048576) (h : DataW.trod enc Tryd.prog w base (fun _ => true) held n 22 [v] = some x) :
    ∃ (A : Option Addr) (c : Nat) (l : List S49), v = .slice A l.length c ∧ l.length ≤ c ∧ Kd.C k49 w A l.length l ∧ Bytes l ∧ l.length ≤ 1048576 ∧ (∀ j, (nd l j).f1.length ≤ 1048576) ∧ ∀ y ∈ l, wfs y.f1 := by
  rcases open_slice_pairs Tryd.underlying22 Tryd.underlying49 cells49 rfl rfl cells5 cells47 h with ⟨h1, _⟩ | ⟨ad, len, cap, m, n', V0, V1, D0, D1, P0, P1, h1, _, hl, hm, hmm, hx, hall⟩
  · obtain rfl : v = .slice none 0 0 := by simpa using h1
    exact ⟨none, 0, [], rfl, Nat.le_refl _, Kd.C_nil _ _, fun y hy => by simp at hy, Nat.zero_le _, fun j => by simp [nd, z49], fun y hy => by simp at hy⟩
  · obtain rfl : v = .slice (some ad) len cap := by simpa using h1
    have hlm : len ≤ m := by rw [hmm]; split <;> omega
    have hd2 : x.1 = .slice ((List.range len).map fun i => .agg [D0 i, D1 i]) ((List.range (m - len)).map fun j => .agg [D0 (len + j), D1 (len + j)]) := congrArg Prod.fst hx
    have each : ∀ i, i < len → ∃ q : Int × Option Addr × Nat × List Int, V0 i = .int .u8 q.1 ∧ V1 i = .slice q.2.1 q.2.2.2.length q.2.2.1 ∧ q.2.2.2.length ≤ q.2.2.1 ∧ Kd.C (Kd.int .i64) w q.2.1 q.2.2.2.length q.2.2.2 ∧ wfs q.2.2.2 ∧ q.2.2.2.length ≤ 1048576 ∧ (0 ≤ q.1 ∧ q.1 ≤ 255) := by
      intro i hi
      obtain ⟨_, _, g0, g1⟩ := hall i (by omega)
      have g0' : DataW.trod enc Tryd.prog w base (fun _ => true) held n' 5 [V0 i] = some (D0 i, P0 i) := g0
      have g1' : DataW.trod enc Tryd.prog w base (fun _ => true) held n' 47 [V1 i] = some (D1 i, P1 i) := g1
      obtain ⟨z, e0, _, wz⟩ := DataW.trod_int Tryd.underlying5 g0'
      obtain ⟨A, c, zs, eb, hl2, hC, hu, hdz⟩ := open_ints' Tryd.underlying47 Tryd.underlying3 (by kernel_rfl) g1'
      refine ⟨(z, A, c, zs), by simpa using e0, eb, hl2, hC, hu, ?_, ?_⟩
      · rcases hdz with h0 | ⟨el, sp, hel, hdz⟩
        · show zs.length ≤ _
          omega
        · have hdz : D1 i = .slice el sp := hdz
          have h1 := bulk_slice el sp
          have h2 : Rows.uptoBulk (D1 i) ≤ Rows.uptoBulk (DataW.agg [D0 i, D1 i]) := by
            simp only [Rows.uptoBulk, Rows.uptoBulkAll]
            omega
          have h3 := bulk_mem ((List.range len).map fun i => DataW.agg [D0 i, D1 i]) _ (List.mem_map.2 ⟨i, List.mem_range.2 hi, rfl⟩)
          have h4 : Rows.uptoBulkAll ((List.range len).map fun i => DataW.agg [D0 i, D1 i]) ≤ Rows.uptoBulk x.1 := by
            rw [hd2]
            simp only [Rows.uptoBulk]
            omega
          rw [hdz] at h2 h3
          show zs.length ≤ _
          simp only [hdz] at *
          omega
      · show 0 ≤ z ∧ z ≤ 255
        simp [Lit.wf, IntKind.min, IntKind.max, IntKind.bits, IntKind.signed] at wz
        omega
    obtain ⟨q, hq⟩ := choose_lt each
    have hll : ((List.range len).map fun i => (⟨(q i).1, (q i).2.2.2⟩ : S49)).length = len := by simp
    have hget : ∀ i, i < len → ((List.range len).map fun i => (⟨(q i).1, (q i).2.2.2⟩ : S49))[i]? = some ⟨(q i).1, (q i).2.2.2⟩ := fun i hi => by
      rw [List.getElem?_map, List.getElem?_range hi]
      rfl
    have hin : ∀ y ∈ ((List.range len).map fun i => (⟨(q i).1, (q i).2.2.2⟩ : S49)), ∃ i, i < len ∧ y = ⟨(q i).1, (q i).2.2.2⟩ := fun y hy => by
      obtain ⟨i, hi, rfl⟩ := List.mem_map.1 hy
      exact ⟨i, List.mem_range.1 hi, rfl⟩
    have hlen : len ≤ 1048576 := by
      have h1 := bulk_slice ((List.range len).map fun i => DataW.agg [D0 i, D1 i]) ((List.range (m - len)).map fun j => .agg [D0 (len + j), D1 (len + j)])
      rw [← hd2] at h1
      simp at h1
      omega
    refine ⟨some ad, cap, (List.range len).map fun i => ⟨(q i).1, (q i).2.2.2⟩, by rw [hll], by rw [hll]; exact hl, ⟨rfl, by rw [hll]; simp [maxLen] at hm; omega, fun _ => ⟨ad, rfl, fun j p hj => ?_⟩⟩, fun y hy => ?_, by rw [hll]; exact hlen, fun j => ?_, fun y hy => ?_⟩
    · have hj' : j < len := by
        have := (List.getElem?_eq_some_iff.1 hj).1
        omega
      rw [hget j hj'] at hj
      obtain rfl := Option.some.inj hj
      obtain ⟨q1, q2, q3, q4, q5, q6, q7⟩ := hq j hj'
      obtain ⟨k0, k1, _, _⟩ := hall j (by omega)
      rw [q1] at k0
      rw [q2] at k1
      exact ⟨_, rfl, k49_mk w ⟨(q j).1, (q j).2.2.2⟩ q3 q4, fun i u hu => by
        match i, hu with
        | 0, hu => obtain rfl := Option.some.inj hu; exact k0
        | 1, hu => obtain rfl := Option.some.inj hu; exact k1⟩
    · obtain ⟨i, hi, rfl⟩ := hin y hy
      exact (hq i hi).2.2.2.2.2.2
    · unfold nd
      rw [List.getD_eq_getElem?_getD]
      by_cases e : j < len
      · rw [hget j e]
        exact (hq j e).2.2.2.2.2.1
      · rw [List.getElem?_eq_none (by rw [hll]; omega)]
        simp [z49]
    · obtain ⟨i, hi, rfl⟩ := hin y hy
      exact (hq i hi).2.2.2.2.1
end
end Go.Proofs.YtbnonnogkgbpiaaDoor.OpenTree
end
section
namespace Go.Proofs.YtbnonnogkgbpiaaDoor.treeKeepses
open Go.ChangeShapes Go.WideShapes Go.ChangeAt Go.RowKit Go.Joins Go.Deep
open Go.ChangeMaps (open_string shut_string)
set_option linter.unusedVariables false
theorem own : ownKnob Tryd.prog.godebug = none := by kernel_rfl
theorem laidOut : laidOutB Tryd.prog = true := by kernel_rfl
theorem open_agg_4 {H : Type} {enc : TypeId × Value → H} {P : Program} {w : World} {base : Nat} {spare : Nat → Bool} {held : Bool} {r : Reach} {b0 : Nat} {t : TypeId} {f0 f1 f2 f3 : Field} {v : Value} {d : DataW H} {p : List MemPlace} (hs : P.underlying t = some (.struct #[f0, f1, f2, f3])) (hone : oneCellFields P #[f0, f1, f2, f3] = true) (hC : P.cellsOf t = 4)
    (hv : Value.okWide P w r b0 t v) (h : DataW.Trod enc P w base spare held t v d p) :
    ∃ (v0 v1 v2 v3 : Value) (y0 y1 y2 y3 : DataW H × List MemPlace) (n : Nat), v = .agg #[v0, v1, v2, v3] ∧ d = .agg [y0.1, y1.1, y2.1, y3.1] ∧ DataW.trod enc P w base spare held n f0.type [v0] = some y0 ∧ DataW.trod enc P w base spare held n f1.type [v1] = some y1 ∧ DataW.trod enc P w base spare held n f2.type [v2] = some y2 ∧ DataW.trod enc P w base spare held n f3.type [v3] = some y3 := by
  obtain ⟨cs, rfl, hsz⟩ := okWide_struct hs hv
  obtain ⟨l⟩ := cs
  match l, hsz.trans hC with
  | [c0, c1, c2, c3], _ =>
    obtain ⟨fuel, hf⟩ := h
    obtain ⟨xs, n, _, hx, _, hlen, hg⟩ := DataW.trod_struct hs hf
    obtain ⟨o0, k0⟩ := hone_of hone 0 f0 rfl
    obtain ⟨o1, k1⟩ := hone_of hone 1 f1 rfl
    obtain ⟨o2, k2⟩ := hone_of hone 2 f2 rfl
    obtain ⟨o3, k3⟩ := hone_of hone 3 f3 rfl
    match xs, hlen with
    | [y0, y1, y2, y3], _ =>
      simp only [Prod.mk.injEq] at hx
      exact ⟨c0, c1, c2, c3, y0, y1, y2, y3, n, rfl, by simpa using hx.1, by simpa [Value.cells, o0, k0] using hg 0 f0 rfl, by simpa [Value.cells, o1, k1] using hg 1 f1 rfl, by simpa [Value.cells, o2, k2] using hg 2 f2 rfl, by simpa [Value.cells, o3, k3] using hg 3 f3 rfl⟩
theorem laidPlain {W : World} (h : laidMetH Tryd.prog Rows.treeKeepsesUptoRow.laid W) : laidMet Tryd.prog Rows.treeKeepsesUptoRow.laid W := by
  rw [MakeChecks.laidMetH_plain _ _ _ (by kernel_rfl)] at h; exact h
theorem pow10 {W : World} (h : laidMetH Tryd.prog Rows.treeKeepsesUptoRow.laid W) : Lib.TabIs Tryd.prog W "internal/strconv.uint64pow10" .u64 Lib.pow10Tab :=
  Lib.tabIs_of_head (g := 0) (t := 153) (e := 147) (n := 20) (by kernel_rfl) (by kernel_rfl) Tryd.underlying153 Tryd.underlying147 (by kernel_rfl) (by kernel_rfl) (laidMet.tail (laidMet.tail (laidPlain h)))
theorem door_met (os : Os) (args : Array Value) : laidMetH Tryd.prog Rows.treeKeepsesUptoRow.laid ((World.doorLaid Tryd.prog 24 os).forCall (fun _ _ => 0) ⟨#[], args, []⟩).memory :=
  laidMetH_of_parts3 (fuel := 8) (laidMet_of_run' 8 (by kernel_rfl) (by kernel_rfl)) (by kernel_rfl) (by kernel_rfl)
set_option maxRecDepth 100000 in
theorem reads (os : Os) {H : Type} (enc : TypeId × Value → H) : ∃ places, DataW.whole enc Tryd.prog ((World.doorLaid Tryd.prog 24 os).forCall (fun _ _ => 0) ⟨#[], #[.agg #[.int .i64 0, .int .i64 0, .slice none 0 0, .int .i64 0], .slice none 0 0], []⟩).memory Tryd.f9.params.toList Rows.treeKeepsesSpec.vars false (#[.agg #[.int .i64 0, .int .i64 0, .slice none 0 0, .int .i64 0], .slice none 0 0] : Array Value).toList 8 = some ([.agg [.lit (.int .i64 0), .lit (.int .i64 0), .nil, .lit (.int .i64 0)], .nil], [], places) := ⟨[], by kernel_rfl⟩
set_option maxRecDepth 100000 in
theorem lifted (os : Os) (started : os.Started) (H : Type) (enc : TypeId × Value → H) (F : Stop.Interp) :
    ReturnsInHanded {} Tryd.checked os 9 .any ((Rows.OpenSpec.upto Rows.treeKeepsesSpec).preRow enc Tryd.prog Tryd.f9 Rows.treeKeepsesUptoRow.domain false Rows.treeKeepsesUptoRow.laid) (((Rows.OpenSpec.upto Rows.treeKeepsesSpec).at F).post enc Tryd.prog Tryd.f9 false true false false) := by
  obtain ⟨places, hx⟩ := reads os enc
  refine returnsInHanded_of_row (C := Tryd.checked) (s := Rows.OpenSpec.upto Rows.treeKeepsesSpec) own started (by kernel_rfl) Tryd.func9
    (witness_row_atRef (enc := enc) (C := Tryd.checked) false (World.doorLaid Tryd.prog 24 os) #[.agg #[.int .i64 0, .int .i64 0, .slice none 0 0, .int .i64 0], .slice none 0 0] rfl (by kernel_rfl) (by kernel_rfl) (by kernel_rfl)
      (OpenSpec.preRow_of_cond 8 hx (by kernel_rfl) (fun k hk => by cases hk; kernel_rfl) (by kernel_rfl) (door_met os _))) ?_
  intro W base args ds gs before hval0 hW _ hcond hsz0 hL _ _
  have hk_ := hcond _ rfl
  have hsz : (DataW.weightsEach Tryd.prog (Tryd.f9.params.toList ++ Rows.treeKeepsesSpec.plain.varTypes Tryd.prog) (ds ++ gs)).all (· ≤ reachBytes) = true := hsz0
  have hval : ∀ (j : Nat) t v, Tryd.f9.params[j]? = some t → args[j]? = some v → Value.okWide Tryd.prog W .any base t v := hval0
  have hW' := hW
  obtain ⟨p, q, hA0, hV, rfl, hfz, hnd⟩ := hW
  have hA : DataW.TrodAll enc Tryd.prog W 0 (fun _ => true) true Tryd.f9.params.toList args.toList ds p := hA0
  rw [Tryd.params9] at hA hval hsz
  obtain ⟨v0, vs0, d0, ds0, p0, q0, hargs, rfl, rfl, h0, r0⟩ := trodAll_cons hA
  obtain ⟨v1, vs1, d1, ds1, p1, q1, rfl, rfl, rfl, h1, r1⟩ := trodAll_cons r0
  obtain ⟨rfl, rfl, rfl⟩ := trodAll_nil r1
  obtain rfl : args = #[v0, v1] := by cases args; simp_all
  obtain ⟨rfl, rfl⟩ := trodVars_none hV
  have k0 := h0
  have lt0 : ∀ x ∈ p0, x.block < W.heap.size := by obtain ⟨m, hm⟩ := k0; exact DataW.trod_lt m _ _ _ hm
  obtain ⟨c0_0, c0_1, c0_2, c0_3, x0_0, x0_1, x0_2, x0_3, m0, rfl, rfl, g0_0, g0_1, g0_2, g0_3⟩ := open_agg_4 Tryd.underlying24 (by kernel_rfl) (by kernel_rfl) (hval 0 24 v0 rfl rfl) h0
  obtain ⟨a0_0, e0_0, _, w0_0⟩ := DataW.trod_int Tryd.underlying3 g0_0
  obtain rfl : c0_0 = .int .i64 a0_0 := by simpa using e0_0
  obtain ⟨a0_1, e0_1, _, w0_1⟩ := DataW.trod_int Tryd.underlying3 g0_1
  obtain rfl : c0_1 = .int .i64 a0_1 := by simpa using e0_1
  obtain ⟨a0_3, e0_3, _, w0_3⟩ := DataW.trod_int Tryd.underlying3 g0_3
  obtain rfl : c0_3 = .int .i64 a0_3 := by simpa using e0_3
  have k1 := h1
  have lt1 : ∀ x ∈ p1, x.block < W.heap.size := by obtain ⟨m, hm⟩ := k1; exact DataW.trod_lt m _ _ _ hm
  clear hA0 hval0 hsz0
  clear hsz
  have done : ∀ W', Below W.heap.size W W' → ∃ r, (Ending.returned (.bool true)) = .returned r ∧ Rows.treeKeepsesSpec.post enc Tryd.prog Tryd.f9 false true false false W #[.agg #[.int .i64 a0_0, .int .i64 a0_1, c0_2, .int .i64 a0_3], v1] r W' := fun W' bel =>
    ⟨_, rfl, _, _, _, [], _, [], hW', trodAll_mk1 (shut_bool Tryd.underlying4 _), (trodAll_cons_mk (Below.trod laidOut (by kernel_rfl) (of_decide_eq_true (by kernel_rfl)) k0 bel lt0) (trodAll_cons_mk (Below.trod laidOut (by kernel_rfl) (of_decide_eq_true (by kernel_rfl)) k1 bel lt1) trodAll_mk0)), rfl, bel.frame _, fun h => by cases h⟩
  have hb_ := of_decide_eq_true hk_
  have hb0 : Rows.uptoBulk x0_2.1 ≤ 1048576 := by simp only [List.append_nil, Rows.uptoBulkAll, Rows.uptoBulk] at hb_; omega
  obtain ⟨A0, c0, l0, rfl, hl0, hC0, hy0, hn0, hk0, hw0⟩ := OpenTree.open_nodes hb0 g0_2
  have hb1 : Rows.uptoBulk d1 ≤ 1048576 := by simp only [List.append_nil, Rows.uptoBulkAll, Rows.uptoBulk] at hb_; omega
  obtain ⟨A1, c1, z1, rfl, hl1, hC1, hw1, hn1⟩ := OpenTree.open_list (k := .i64) Tryd.underlying47 Tryd.underlying3 (by kernel_rfl) (hval 1 47 v1 rfl rfl) h1 hb1
  refine (LentT.keepses_walk a0_0 a0_1 a0_3 A0 c0 l0 A1 c1 z1 W (pow10 hL) hC0 hl0 (by omega) (fun j => Nat.le_trans (hk0 j) (by decide)) hy0 hC1 hl1 (by omega) (List.all_eq_true.2 hw1)).mono fun e W' ⟨he, bel⟩ => ?_
  subst he
  exact done W' bel
theorem said : Rows.TreeKeepsesUptoSaid :=
  OpenClaim.holds_of_cond 9 Tryd.f9 rfl rfl rfl rfl rfl rfl rfl ⟨rfl, rfl, rfl, rfl, rfl⟩ rfl rfl rfl rfl rfl (by kernel_rfl) Tryd.func9 (by kernel_rfl)
    (of_decide_eq_true (by kernel_rfl)) (by unfold Func.isWrapper; first | (rw [if_pos (by decide +kernel)]; kernel_rfl) | (rw [if_neg (by decide +kernel)]; exact ⟨rfl, rfl⟩))
    (fun os started H enc _ F => by rw [OpenClaim.pre_eq_preRow]; exact lifted os started H enc F)
theorem plain (f : FuncId) (fn : Func) (hf : Tryd.pinned.checked.prog.funcNamed "vivarium/vivariumlaw11.TreeKeepses" = some f) (hfn : Tryd.pinned.checked.prog.funcs[f]? = some fn) :
    false = Tryd.pinned.checked.prog.looks [] ∧ ∀ (j : Nat) t, fn.params[j]? = some t → Tryd.pinned.checked.prog.wantsStandIn t = false := by
  obtain rfl : f = 9 := Option.some.inj ((show Tryd.prog.funcNamed "vivarium/vivariumlaw11.TreeKeepses" = some 9 by kernel_rfl).symm.trans hf) |>.symm
  obtain rfl : fn = Tryd.f9 := (Option.some.inj (Tryd.func9.symm.trans hfn)).symm
  refine ⟨by kernel_rfl, fun j t ht => ?_⟩
  rw [Tryd.params9] at ht
  have hm : t ∈ [24, 47] := by simpa using Array.mem_of_getElem? ht
  have hall : ([24, 47].all fun u => !Tryd.prog.wantsStandIn u) = true := by kernel_rfl
  exact (show Tryd.prog.wantsStandIn t = false by simpa using List.all_eq_true.1 hall t hm)
theorem card : Rows.TreeKeepsesUptoCardSaid :=
  Claim7.holds_tied_plain_at .later [] _ _ _ _ said (fun _ h => by cases h) (by kernel_rfl) (fun _ h => by cases h) treeKeepsesUpto_row_tie rfl ⟨rfl, rfl⟩ (by kernel_rfl) rfl plain (by kernel_rfl)
end Go.Proofs.YtbnonnogkgbpiaaDoor.treeKeepses
namespace Go.Proofs.YtbnonnogkgbpiaaDoor
theorem treeKeepses_holds : Rows.TreeKeepsesUptoCardSaid := treeKeepses.card
#print axioms treeKeepses_holds
end Go.Proofs.YtbnonnogkgbpiaaDoor
end
