import Derived.Test.YtlghmadoogblcaaBits
import Derived.Test.YtlghmadoogblcaaPWxe
import Derived.Test.YtlghmadoogblcaaPWx6
import Derived.Test.YtlghmadoogblcaaPWxj
namespace Go.Proofs.Ytlghmadoogblcaa.Rowp
open Go Go.RowKit Go.Proofs.Ytlghmadoogblcaa.PW Go.Proofs.YtlghmadoogblcaaW.PrintWords Go.Proofs.YtlghmadoogblcaaW.PrintLast Go.Proofs.YtlghmadoogblcaaW.PrintMore Go.Proofs.Ytlghmadoogblcaa.Bits
set_option maxRecDepth 100000
set_option linter.unusedVariables false

/-- The words of a row, as a list. -/
def rowOf (m : Nat) (W : Nat → Nat) : List Int := (List.range m).map fun i => (W i : Int)
@[simp] theorem rowOf_len (m : Nat) (W : Nat → Nat) : (rowOf m W).length = m := by simp [rowOf]
theorem rowOf_get (m : Nat) (W : Nat → Nat) (i : Nat) (h : i < m) : (rowOf m W)[i]? = some (W i : Int) := by simp [rowOf, h]
theorem rowOf_rd (m : Nat) (W : Nat → Nat) (i : Nat) (h : i < m) : rd (rowOf m W) (i : Int) = (W i : Int) := by
  simp [rd, List.getD_eq_getElem?_getD, rowOf_get m W i h]
theorem rowOf_congr {m : Nat} {W W' : Nat → Nat} (h : ∀ i, i < m → W i = W' i) : rowOf m W = rowOf m W' := by
  unfold rowOf
  exact List.map_congr_left (fun i hi => by rw [h i (List.mem_range.1 hi)])
theorem rowOf_set (m : Nat) (W : Nat → Nat) (i x : Nat) : (rowOf m W).set ((i : Int)).toNat (x : Int) = rowOf m (fun t => if t = i then x else W t) := by
  apply List.ext_getElem?
  intro j
  rw [Int.toNat_natCast, List.getElem?_set]
  by_cases hj : j < m
  · rw [rowOf_get m _ j hj, rowOf_get m _ j hj]
    by_cases e : i = j
    · subst e; simp [hj]
    · simp [e, Ne.symm e]
  · have h1 : (rowOf m W)[j]? = none := by simp [rowOf]; omega
    have h2 : (rowOf m fun t => if t = i then x else W t)[j]? = none := by simp [rowOf]; omega
    rw [h1, h2]
    by_cases e : i = j
    · subst e; simp [hj]
    · simp [e]

def nw (n : Nat) : Nat := (n + 63) / 64
def ones : Nat := 18446744073709551615
def mask (n : Nat) : Nat := if n % 64 = 0 then ones else 2 ^ (n % 64) - 1
theorem mask_lt (n : Nat) : mask n < 18446744073709551616 := by
  unfold mask ones
  split
  · decide
  · have : 2 ^ (n % 64) ≤ 2 ^ 63 := Nat.pow_le_pow_right (by decide) (by omega)
    omega
structure Good (n : Nat) (W : Nat → Nat) : Prop where
  le : n ≤ 65538
  lt : ∀ i, i < nw n → W i < 18446744073709551616
  last : 0 < n → W (nw n - 1) &&& mask n = W (nw n - 1)

theorem w64 (x : Int) (h : -9223372036854775808 ≤ x ∧ x ≤ 9223372036854775807) : wrap64 x = x := by unfold wrap64; omega
theorem nwI (n : Nat) (h : n ≤ 65538) : wrap64 (Int.tdiv (wrap64 ((n : Int) + 63)) 64) = ((nw n : Nat) : Int) := by
  rw [w64 ((n : Int) + 63) (by omega)]
  have : Int.tdiv ((n : Int) + 63) 64 = ((nw n : Nat) : Int) := by
    unfold nw
    rw [show (n : Int) + 63 = ((n + 63 : Nat) : Int) by omega]
    exact (Int.ofNat_tdiv _ _).symm
  rw [this, w64]
  unfold nw; omega

theorem last_spec (n : Nat) : words_last.f (n : Int) = some ((mask n : Nat) : Int) := by
  unfold words_last.f mask
  have e : Int.tmod (n : Int) 64 = ((n % 64 : Nat) : Int) := (Int.ofNat_tmod _ _).symm
  rw [e]
  by_cases h : n % 64 = 0
  · rw [if_pos (by omega), if_pos h]; rfl
  · rw [if_neg (by omega), if_pos (by omega), if_neg h, show (1 : Int) = ((1 : Nat) : Int) from rfl, shl_bit 1 (n % 64) (by decide) (by omega), Nat.one_mul]
    have h1 : 2 ^ (n % 64) ≤ 2 ^ 63 := Nat.pow_le_pow_right (by decide) (by omega)
    have h2 : 0 < 2 ^ (n % 64) := Nat.pow_pos (by decide)
    have e2 : ((2 ^ (n % 64) : Nat) : Int) - ((1 : Nat) : Int) = ((2 ^ (n % 64) - 1 : Nat) : Int) := by omega
    rw [e2, wrapU_small _ (by omega)]

theorem andNot_zero (x m : Nat) (hx : x < 18446744073709551616) (hm : m < 18446744073709551616) (h : x &&& m = x) : Go.bits .andNot .u64 (x : Int) (m : Int) = 0 := by
  have h1 : (BitVec.ofInt 64 (x : Int)).toNat = x := by
    rw [BitVec.ofInt_natCast, BitVec.toNat_ofNat]; exact Nat.mod_eq_of_lt (by omega)
  have h2 : (BitVec.ofInt 64 (m : Int)).toNat = m := by
    rw [BitVec.ofInt_natCast, BitVec.toNat_ofNat]; exact Nat.mod_eq_of_lt (by omega)
  have hb : BitVec.ofInt 64 (x : Int) &&& BitVec.ofInt 64 (m : Int) = BitVec.ofInt 64 (x : Int) := by
    apply BitVec.eq_of_toNat_eq
    rw [BitVec.toNat_and, h1, h2, h]
  have hz : BitVec.ofInt 64 (x : Int) &&& ~~~ BitVec.ofInt 64 (m : Int) = 0#64 := by
    rw [← hb]
    generalize BitVec.ofInt 64 (x : Int) = X
    generalize BitVec.ofInt 64 (m : Int) = M
    ext i hi
    simp
  show IntKind.u64.wrap ((BitVec.ofInt 64 (x : Int) &&& ~~~ BitVec.ofInt 64 (m : Int)).toNat : Int) = 0
  rw [hz]; rfl

theorem valid_spec {n : Nat} {W : Nat → Nat} (g : Good n W) : words_Valid.f (n : Int) (rowOf (nw n) W) = some true := by
  unfold words_Valid.f
  have hle := g.le
  rw [if_neg (by omega), if_neg (by omega), nwI n hle, rowOf_len, if_pos rfl]
  by_cases h0 : nw n = 0
  · rw [if_pos (by omega)]
  · rw [if_neg (by omega)]
    have hm : nw n ≤ 1025 := by unfold nw; omega
    rw [w64 (((nw n : Nat) : Int) - 1) (by omega), if_pos (by omega), if_pos (by omega), last_spec]
    simp only [Option.bind_some]
    have e : ((nw n : Nat) : Int) - 1 = ((nw n - 1 : Nat) : Int) := by omega
    have hn : 0 < n := by unfold nw at h0; omega
    rw [e, rowOf_rd _ _ _ (by omega), andNot_zero _ _ (g.lt _ (by omega)) (mask_lt n) (g.last hn)]
    rfl

theorem blank_spec (n : Nat) (h : n ≤ 65538) : words_blank.f (n : Int) = some ((n : Int), List.replicate (nw n) 0) := by
  unfold words_blank.f
  have hm : nw n ≤ 1025 := by unfold nw; omega
  rw [nwI n h, if_pos (by omega), if_pos (by omega), Int.toNat_natCast]
theorem clone_spec (n : Nat) (h : n ≤ 65538) (R : List Int) (hR : R.length = nw n) : words_clone.f (n : Int) R = some ((n : Int), R) := by
  unfold words_clone.f
  rw [blank_spec n h]
  simp [hR, List.take_of_length_le (Nat.le_of_eq hR)]

theorem rd31_0 (x y : S31) : rd_T31 [x, y] 0 = x := rfl
theorem rd31_1 (x y : S31) : rd_T31 [x, y] 1 = y := rfl
theorem fits_spec {n : Nat} {A B : Nat → Nat} (ga : Good n A) (gb : Good n B) (k : Nat) : words_fits.f (k + 6) [⟨(n : Int), rowOf (nw n) A⟩, ⟨(n : Int), rowOf (nw n) B⟩] = some 0 := by
  unfold words_fits.f
  have e2 : (([⟨(n : Int), rowOf (nw n) A⟩, ⟨(n : Int), rowOf (nw n) B⟩] : List S31).length : Int) = 2 := rfl
  have w1 : wrap64 ((0 : Int) + 1) = 1 := w64 _ (by decide)
  have w2 : wrap64 ((1 : Int) + 1) = 2 := w64 _ (by decide)
  rw [words_fits.l0, e2, if_pos (by decide), if_pos (by decide), if_pos (by decide), rd31_0, valid_spec ga]
  simp only [Option.bind_some, if_true, w1]
  rw [words_fits.l0, if_pos (by decide), if_pos (by decide), e2, if_pos (by decide), rd31_1, valid_spec gb]
  simp only [Option.bind_some, if_true, w2]
  rw [words_fits.l0, if_neg (by decide), e2]
  rw [words_fits.l1, if_pos (by decide), if_pos (by decide), e2, if_pos (by decide), if_pos (by decide), rd31_0, if_pos rfl, w1]
  rw [words_fits.l1, if_pos (by decide), if_pos (by decide), e2, if_pos (by decide), if_pos (by decide), rd31_1, rd31_0, if_pos rfl, w2]
  rw [words_fits.l1, if_neg (by decide)]

theorem fits_at {n : Nat} {A B : Nat → Nat} (ga : Good n A) (gb : Good n B) (k : Nat) (hk : 6 ≤ k) : words_fits.f k [⟨(n : Int), rowOf (nw n) A⟩, ⟨(n : Int), rowOf (nw n) B⟩] = some 0 := by
  have h := fits_spec ga gb (k - 6)
  rwa [Nat.sub_add_cancel hk] at h

theorem bits_xor_n (a b : Nat) (ha : a < 18446744073709551616) (hb : b < 18446744073709551616) : a ^^^ b < 18446744073709551616 := Nat.xor_lt_two_pow (n := 64) ha hb
theorem bits_or_n (a b : Nat) (ha : a < 18446744073709551616) (hb : b < 18446744073709551616) : a ||| b < 18446744073709551616 := Nat.or_lt_two_pow (n := 64) ha hb
theorem bits_and_n (a b : Nat) (ha : a < 18446744073709551616) (hb : b < 18446744073709551616) : a &&& b < 18446744073709551616 := Nat.and_lt_two_pow (n := 64) _ hb

theorem and_loop {n m : Nat} {A B : Nat → Nat} (hle : m ≤ 1025) (hA : ∀ t, t < m → A t < 18446744073709551616) (hB : ∀ t, t < m → B t < 18446744073709551616) :
    ∀ (j k i : Nat) (iI : Int), iI = (i : Int) → j < k → i + j = m → words_And.l0 k (rowOf m B) ((m : Nat) : Int) iI (n : Int) (rowOf m (fun t => if t < i then A t &&& B t else A t)) = some ((n : Int), rowOf m (fun t => A t &&& B t), 0)
  | 0, k + 1, i, _, rfl, _, h => by
    rw [words_And.l0, if_neg (by omega)]
    congr 3
    exact rowOf_congr fun t ht => if_pos (by omega)
  | j + 1, k + 1, i, _, rfl, hk, h => by
    rw [words_And.l0, if_pos (by omega), if_pos (by omega), rowOf_len, if_pos (by omega), rowOf_len, if_pos (by omega), rowOf_rd _ _ _ (by omega), rowOf_rd _ _ _ (by omega), if_neg (by omega),
      bits_and_u64_nat _ _ (hA _ (by omega)) (hB _ (by omega)), rowOf_set, w64 ((i : Int) + 1) (by omega), show (i : Int) + 1 = ((i + 1 : Nat) : Int) by omega]
    have hc : rowOf m (fun t => if t = i then A i &&& B i else if t < i then A t &&& B t else A t) = rowOf m (fun t => if t < i + 1 then A t &&& B t else A t) := by
      refine rowOf_congr fun t ht => ?_
      by_cases e : t = i
      · subst e; rw [if_pos rfl, if_pos (by omega)]
      · rw [if_neg e]
        by_cases h2 : t < i
        · rw [if_pos h2, if_pos (by omega)]
        · rw [if_neg h2, if_neg (by omega)]
    exact (congrArg (words_And.l0 k (rowOf m B) ((m : Nat) : Int) _ (n : Int)) hc).trans (and_loop hle hA hB j k (i + 1) _ rfl (by omega) (by omega))
theorem and_spec {n : Nat} {A B : Nat → Nat} (ga : Good n A) (gb : Good n B) (k : Nat) (hk : 1032 < k) : words_And.f k (n : Int) (rowOf (nw n) A) (n : Int) (rowOf (nw n) B) = some ((n : Int), rowOf (nw n) (fun t => A t &&& B t), 0) := by
  have hm : nw n ≤ 1025 := by have := ga.le; unfold nw; omega
  unfold words_And.f
  rw [fits_at ga gb k (by omega)]
  rw [Option.bind_some, if_pos rfl]
  rw [clone_spec n ga.le _ (rowOf_len _ _)]
  rw [Option.bind_some]
  have h := and_loop (n := n) (m := nw n) hm ga.lt gb.lt (nw n) k 0 0 rfl (by omega) (by omega)
  rw [rowOf_congr (W' := A) (fun t ht => if_neg (Nat.not_lt_zero t))] at h
  rw [rowOf_len]
  exact h

theorem or_loop {n m : Nat} {A B : Nat → Nat} (hle : m ≤ 1025) (hA : ∀ t, t < m → A t < 18446744073709551616) (hB : ∀ t, t < m → B t < 18446744073709551616) :
    ∀ (j k i : Nat) (iI : Int), iI = (i : Int) → j < k → i + j = m → words_Or.l0 k (rowOf m B) ((m : Nat) : Int) iI (n : Int) (rowOf m (fun t => if t < i then A t ||| B t else A t)) = some ((n : Int), rowOf m (fun t => A t ||| B t), 0)
  | 0, k + 1, i, _, rfl, _, h => by
    rw [words_Or.l0, if_neg (by omega)]
    congr 3
    exact rowOf_congr fun t ht => if_pos (by omega)
  | j + 1, k + 1, i, _, rfl, hk, h => by
    rw [words_Or.l0, if_pos (by omega), if_pos (by omega), rowOf_len, if_pos (by omega), rowOf_len, if_pos (by omega), rowOf_rd _ _ _ (by omega), rowOf_rd _ _ _ (by omega), if_neg (by omega),
      bits_or_u64_nat _ _ (hA _ (by omega)) (hB _ (by omega)), rowOf_set, w64 ((i : Int) + 1) (by omega), show (i : Int) + 1 = ((i + 1 : Nat) : Int) by omega]
    have hc : rowOf m (fun t => if t = i then A i ||| B i else if t < i then A t ||| B t else A t) = rowOf m (fun t => if t < i + 1 then A t ||| B t else A t) := by
      refine rowOf_congr fun t ht => ?_
      by_cases e : t = i
      · subst e; rw [if_pos rfl, if_pos (by omega)]
      · rw [if_neg e]
        by_cases h2 : t < i
        · rw [if_pos h2, if_pos (by omega)]
        · rw [if_neg h2, if_neg (by omega)]
    exact (congrArg (words_Or.l0 k (rowOf m B) ((m : Nat) : Int) _ (n : Int)) hc).trans (or_loop hle hA hB j k (i + 1) _ rfl (by omega) (by omega))
theorem or_spec {n : Nat} {A B : Nat → Nat} (ga : Good n A) (gb : Good n B) (k : Nat) (hk : 1032 < k) : words_Or.f k (n : Int) (rowOf (nw n) A) (n : Int) (rowOf (nw n) B) = some ((n : Int), rowOf (nw n) (fun t => A t ||| B t), 0) := by
  have hm : nw n ≤ 1025 := by have := ga.le; unfold nw; omega
  unfold words_Or.f
  rw [fits_at ga gb k (by omega)]
  rw [Option.bind_some, if_pos rfl]
  rw [clone_spec n ga.le _ (rowOf_len _ _)]
  rw [Option.bind_some]
  have h := or_loop (n := n) (m := nw n) hm ga.lt gb.lt (nw n) k 0 0 rfl (by omega) (by omega)
  rw [rowOf_congr (W' := A) (fun t ht => if_neg (Nat.not_lt_zero t))] at h
  rw [rowOf_len]
  exact h

theorem xor_loop {n m : Nat} {A B : Nat → Nat} (hle : m ≤ 1025) (hA : ∀ t, t < m → A t < 18446744073709551616) (hB : ∀ t, t < m → B t < 18446744073709551616) :
    ∀ (j k i : Nat) (iI : Int), iI = (i : Int) → j < k → i + j = m → words_Xor.l0 k (rowOf m B) ((m : Nat) : Int) iI (n : Int) (rowOf m (fun t => if t < i then A t ^^^ B t else A t)) = some ((n : Int), rowOf m (fun t => A t ^^^ B t), 0)
  | 0, k + 1, i, _, rfl, _, h => by
    rw [words_Xor.l0, if_neg (by omega)]
    congr 3
    exact rowOf_congr fun t ht => if_pos (by omega)
  | j + 1, k + 1, i, _, rfl, hk, h => by
    rw [words_Xor.l0, if_pos (by omega), if_pos (by omega), rowOf_len, if_pos (by omega), rowOf_len, if_pos (by omega), rowOf_rd _ _ _ (by omega), rowOf_rd _ _ _ (by omega), if_neg (by omega),
      bits_xor_u64_nat _ _ (hA _ (by omega)) (hB _ (by omega)), rowOf_set, w64 ((i : Int) + 1) (by omega), show (i : Int) + 1 = ((i + 1 : Nat) : Int) by omega]
    have hc : rowOf m (fun t => if t = i then A i ^^^ B i else if t < i then A t ^^^ B t else A t) = rowOf m (fun t => if t < i + 1 then A t ^^^ B t else A t) := by
      refine rowOf_congr fun t ht => ?_
      by_cases e : t = i
      · subst e; rw [if_pos rfl, if_pos (by omega)]
      · rw [if_neg e]
        by_cases h2 : t < i
        · rw [if_pos h2, if_pos (by omega)]
        · rw [if_neg h2, if_neg (by omega)]
    exact (congrArg (words_Xor.l0 k (rowOf m B) ((m : Nat) : Int) _ (n : Int)) hc).trans (xor_loop hle hA hB j k (i + 1) _ rfl (by omega) (by omega))
theorem xor_spec {n : Nat} {A B : Nat → Nat} (ga : Good n A) (gb : Good n B) (k : Nat) (hk : 1032 < k) : words_Xor.f k (n : Int) (rowOf (nw n) A) (n : Int) (rowOf (nw n) B) = some ((n : Int), rowOf (nw n) (fun t => A t ^^^ B t), 0) := by
  have hm : nw n ≤ 1025 := by have := ga.le; unfold nw; omega
  unfold words_Xor.f
  rw [fits_at ga gb k (by omega)]
  rw [Option.bind_some, if_pos rfl]
  rw [clone_spec n ga.le _ (rowOf_len _ _)]
  rw [Option.bind_some]
  have h := xor_loop (n := n) (m := nw n) hm ga.lt gb.lt (nw n) k 0 0 rfl (by omega) (by omega)
  rw [rowOf_congr (W' := A) (fun t ht => if_neg (Nat.not_lt_zero t))] at h
  rw [rowOf_len]
  exact h


/-- Not, word by word. -/
def notW (n : Nat) (W : Nat → Nat) (t : Nat) : Nat := if t + 1 = nw n then (W t ^^^ ones) &&& mask n else W t ^^^ ones
theorem not_loop {n m : Nat} {W : Nat → Nat} (hm : m = nw n) (hle : m ≤ 1025) (hW : ∀ t, t < m → W t < 18446744073709551616) :
    ∀ (j k i : Nat) (iI : Int), iI = (i : Int) → j < k → i + j = m → words_Not.l0 k ((m : Nat) : Int) iI (n : Int) (rowOf m (fun t => if t < i then W t ^^^ ones else W t)) = some ((n : Int), rowOf m (notW n W), 0)
  | 0, k + 1, i, _, rfl, _, h => by
    have hi : i = m := by omega
    subst hi
    rw [words_Not.l0, if_neg (by omega), rowOf_len]
    by_cases h0 : i = 0
    · rw [if_neg (by omega)]
      subst h0; rfl
    · rw [if_pos (by omega), w64 ((i : Int) - 1) (by omega), if_pos (by omega), if_pos (by omega), last_spec]
      simp only [Option.bind_some]
      have e : (i : Int) - 1 = ((i - 1 : Nat) : Int) := by omega
      rw [e, rowOf_rd _ _ _ (by omega), if_pos (by omega), bits_and_u64_nat _ _ (bits_xor_n _ _ (hW _ (by omega)) (by decide)) (mask_lt n), rowOf_set]
      congr 3
      refine rowOf_congr fun t ht => ?_
      unfold notW
      by_cases ht1 : t = i - 1
      · subst ht1; rw [if_pos rfl, if_pos (by omega)]
      · rw [if_neg ht1, if_pos ht, if_neg (by omega)]
  | j + 1, k + 1, i, _, rfl, hk, h => by
    rw [words_Not.l0, if_pos (by omega), if_pos (by omega), rowOf_len, if_pos (by omega), rowOf_rd _ _ _ (by omega), if_neg (by omega),
      show (18446744073709551615 : Int) = ((ones : Nat) : Int) from rfl, bits_xor_u64_nat _ _ (hW _ (by omega)) (by decide), rowOf_set, w64 ((i : Int) + 1) (by omega), show (i : Int) + 1 = ((i + 1 : Nat) : Int) by omega]
    have hc : rowOf m (fun t => if t = i then W i ^^^ ones else if t < i then W t ^^^ ones else W t) = rowOf m (fun t => if t < i + 1 then W t ^^^ ones else W t) := by
      refine rowOf_congr fun t ht => ?_
      by_cases e : t = i
      · subst e; rw [if_pos rfl, if_pos (by omega)]
      · rw [if_neg e]
        by_cases h2 : t < i
        · rw [if_pos h2, if_pos (by omega)]
        · rw [if_neg h2, if_neg (by omega)]
    exact (congrArg (words_Not.l0 k ((m : Nat) : Int) _ (n : Int)) hc).trans (not_loop hm hle hW j k (i + 1) _ rfl (by omega) (by omega))
theorem not_spec {n : Nat} {W : Nat → Nat} (g : Good n W) (k : Nat) (hk : 1025 < k) : words_Not.f k (n : Int) (rowOf (nw n) W) = some ((n : Int), rowOf (nw n) (notW n W), 0) := by
  have hm : nw n ≤ 1025 := by have := g.le; unfold nw; omega
  unfold words_Not.f
  rw [valid_spec g]
  rw [Option.bind_some, if_pos rfl]
  rw [clone_spec n g.le _ (rowOf_len _ _)]
  rw [Option.bind_some]
  have h := not_loop (n := n) (m := nw n) rfl hm g.lt (nw n) k 0 0 rfl (by omega) (by omega)
  rw [rowOf_congr (W' := W) (fun t ht => if_neg (Nat.not_lt_zero t))] at h
  rw [rowOf_len]
  exact h

theorem eq_loop {n m : Nat} {W : Nat → Nat} (hle : m ≤ 1025) : ∀ (j k i : Nat) (iI : Int), iI = (i : Int) → j < k → i + j = m → vivariumlaw02_equal.l0 k iI (n : Int) (rowOf m W) (n : Int) (rowOf m W) = some true
  | 0, k + 1, i, _, rfl, _, h => by rw [vivariumlaw02_equal.l0, rowOf_len, if_neg (by omega)]
  | j + 1, k + 1, i, _, rfl, hk, h => by
    rw [vivariumlaw02_equal.l0, rowOf_len, if_pos (by omega), if_pos (by omega), if_pos (by omega), if_pos rfl, w64 ((i : Int) + 1) (by omega), show (i : Int) + 1 = ((i + 1 : Nat) : Int) by omega]
    exact eq_loop hle j k (i + 1) _ rfl (by omega) (by omega)
theorem equal_spec {n : Nat} {W W' : Nat → Nat} (g : Good n W) (hWW : ∀ t, t < nw n → W t = W' t) (k : Nat) (hk : 1026 < k) : vivariumlaw02_equal.f k (n : Int) (rowOf (nw n) W) (n : Int) (rowOf (nw n) W') = some true := by
  have hm : nw n ≤ 1025 := by have := g.le; unfold nw; omega
  rw [← rowOf_congr hWW]
  unfold vivariumlaw02_equal.f
  rw [if_pos rfl, valid_spec g]
  simp only [Option.bind_some, if_true]
  cases k with
  | zero => omega
  | succ k =>
    rw [vivariumlaw02_equal.j0, if_neg (by simp)]
    exact eq_loop hm (nw n) k 0 0 rfl (by omega) (by omega)

end Go.Proofs.Ytlghmadoogblcaa.Rowp
