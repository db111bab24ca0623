/- What the document's answer says of rows, place by place: plain. -/
import Derived.Test.YtlghmadoogblcaaRowBase
import Derived.Test.YtlghmadoogblcaaPBb
namespace Go.Proofs.Ytlghmadoogblcaa.RefPlain
open Go Go.RowKit Go.Proofs.Ytlghmadoogblcaa.PW Go.Proofs.Ytlghmadoogblcaa.PB Go.Proofs.YtlghmadoogblcaaW.PrintWords Go.Proofs.YtlghmadoogblcaaW.PrintLast Go.Proofs.YtlghmadoogblcaaW.PrintMore Go.Proofs.Ytlghmadoogblcaa.Bits Go.Proofs.Ytlghmadoogblcaa.Rowp
set_option maxRecDepth 100000
set_option linter.unusedVariables false
/-- The bit at a place of the words. -/
def bitAt (W : Nat → Nat) (i : Nat) : Bool := (W (i / 64)).testBit (i % 64)
theorem nw_le {n : Nat} (h : n ≤ 65538) : nw n ≤ 1025 := by unfold nw; omega
theorem lt_nw {n i : Nat} (h : i < n) : i / 64 < nw n := by unfold nw; omega
theorem n_le (n : Nat) : n ≤ 64 * nw n := by unfold nw; omega
theorem mask_bit (n b : Nat) : (mask n).testBit b = if n % 64 = 0 then decide (b < 64) else decide (b < n % 64) := by
  unfold mask
  split
  · exact ones_bit b
  · exact Nat.testBit_two_pow_sub_one _ _
theorem good_high {n : Nat} {W : Nat → Nat} (g : Rowp.Good n W) (i : Nat) (h1 : n ≤ i) (h2 : i < 64 * nw n) : bitAt W i = false := by
  have hn : 0 < n := by
    rcases Nat.eq_zero_or_pos n with h0 | h0
    · subst h0; unfold nw at h2; omega
    · exact h0
  have e : i / 64 = nw n - 1 := by unfold nw at *; omega
  have hl := g.last hn
  unfold bitAt
  rw [e, ← hl, Nat.testBit_and, mask_bit]
  have h3 : n % 64 ≠ 0 := by unfold nw at *; omega
  rw [if_neg h3]
  have h4 : ¬ i % 64 < n % 64 := by unfold nw at *; omega
  simp [h4]
theorem good_of_bits {n : Nat} {W : Nat → Nat} (hn : n ≤ 65538) (hlt : ∀ t, t < nw n → W t < 18446744073709551616) (h : ∀ i, n ≤ i → i < 64 * nw n → bitAt W i = false) : Rowp.Good n W := by
  refine ⟨hn, hlt, fun h0 => Nat.eq_of_testBit_eq fun b => ?_⟩
  rw [Nat.testBit_and, mask_bit]
  have hw := hlt (nw n - 1) (by unfold nw; omega)
  by_cases hb : b < 64
  · by_cases hz : n % 64 = 0
    · rw [if_pos hz, decide_eq_true hb, Bool.and_true]
    · rw [if_neg hz]
      by_cases hb2 : b < n % 64
      · rw [decide_eq_true hb2, Bool.and_true]
      · have := h (64 * (nw n - 1) + b) (by unfold nw at *; omega) (by unfold nw at *; omega)
        unfold bitAt at this
        rw [show (64 * (nw n - 1) + b) / 64 = nw n - 1 by omega, show (64 * (nw n - 1) + b) % 64 = b by omega] at this
        rw [this, Bool.false_and]
  · rw [high _ _ hw hb, Bool.false_and]
/-- Two rows with the same bits are one row. -/
theorem row_eq {n : Nat} {V W : Nat → Nat} (gv : Rowp.Good n V) (gw : Rowp.Good n W) (h : ∀ i, i < n → bitAt V i = bitAt W i) : rowOf (nw n) V = rowOf (nw n) W := by
  refine rowOf_congr (fun t ht => Nat.eq_of_testBit_eq fun b => ?_)
  by_cases hb : b < 64
  · have e : bitAt V (64 * t + b) = bitAt W (64 * t + b) := by
      by_cases hi : 64 * t + b < n
      · exact h _ hi
      · rw [good_high gv _ (by omega) (by omega), good_high gw _ (by omega) (by omega)]
    unfold bitAt at e
    rwa [show (64 * t + b) / 64 = t by omega, show (64 * t + b) % 64 = b by omega] at e
  · rw [high _ _ (gv.lt t ht) hb, high _ _ (gw.lt t ht) hb]
theorem tdiv64 (i : Nat) : Int.tdiv (i : Int) 64 = ((i / 64 : Nat) : Int) := (Int.ofNat_tdiv _ _).symm
theorem tmod64 (i : Nat) : Int.tmod (i : Int) 64 = ((i % 64 : Nat) : Int) := (Int.ofNat_tmod _ _).symm
theorem bit_one (x b : Nat) : ((bit x b : Int) == 1) = x.testBit b := by unfold bit; cases x.testBit b <;> rfl
theorem refbit_spec (n0 : Int) (m : Nat) (W : Nat → Nat) (hm : m ≤ 1025) (i : Nat) (hi : i < 64 * m) : vivariumref02_bit.f n0 (rowOf m W) (i : Int) = some (bitAt W i) := by
  unfold vivariumref02_bit.f
  have h1 : i / 64 < m := by omega
  have h2 : i % 64 < 64 := Nat.mod_lt _ (by decide)
  rw [tdiv64, tmod64, w64 ((i / 64 : Nat) : Int) (by omega), if_pos (by omega), rowOf_len, if_pos (by omega), wrapU_small (i % 64) (by omega), if_pos (by omega), rowOf_rd _ _ _ h1, tmod_bit _ _ (by omega), bit_one]
  rfl
theorem refvalid_loop (n0 : Int) (m : Nat) (W : Nat → Nat) (hm : m ≤ 1025) : ∀ (j k x : Nat) (xI : Int), xI = x → x + j = 64 * m → j < k →
    vivariumref02_Valid.l0 k xI n0 (rowOf m W) = some (decide (∀ i, i < 64 * m → x ≤ i → bitAt W i = false))
  | 0, k + 1, x, _, rfl, h, _ => by
    rw [vivariumref02_Valid.l0, rowOf_len, w64 (64 * ((m : Nat) : Int)) (by omega), if_neg (by omega), decide_eq_true (fun i h1 h2 => by omega)]
  | j + 1, k + 1, x, _, rfl, h, hk => by
    rw [vivariumref02_Valid.l0, rowOf_len, w64 (64 * ((m : Nat) : Int)) (by omega), if_pos (by omega), refbit_spec n0 m W hm x (by omega), Option.bind_some]
    by_cases hb : bitAt W x = true
    · rw [if_pos hb, decide_eq_false]
      intro hall
      have := hall x (by omega) (Nat.le_refl _)
      rw [hb] at this
      cases this
    · rw [if_neg hb, w64 ((x : Int) + 1) (by omega), refvalid_loop n0 m W hm j k (x + 1) _ (by omega) (by omega) (by omega)]
      congr 1
      refine decide_eq_decide.2 ⟨fun hall i h2 h1 => ?_, fun hall i h2 h1 => hall i h2 (by omega)⟩
      by_cases hx : i = x
      · subst hx; simpa using hb
      · exact hall i h2 (by omega)
theorem refvalid_at (n : Nat) (hn : n ≤ 65538) (W : Nat → Nat) (k : Nat) (hk : 70000 < k) : vivariumref02_Valid.f k (n : Int) (rowOf (nw n) W) = some (decide (∀ i, i < 64 * nw n → n ≤ i → bitAt W i = false)) := by
  have hm := nw_le hn
  have hl := n_le n
  obtain ⟨k, rfl⟩ : ∃ q, k = q + 1 := ⟨k - 1, by omega⟩
  unfold vivariumref02_Valid.f
  rw [if_neg (by omega), if_neg (by omega), nwI n hn, rowOf_len, show (((nw n : Nat) : Int) != ((nw n : Nat) : Int)) = false by simp, vivariumref02_Valid.j0, if_neg (by decide)]
  exact refvalid_loop _ _ W hm (64 * nw n - n) k n _ rfl (by omega) (by omega)
theorem refvalid_good {n : Nat} {W : Nat → Nat} (g : Rowp.Good n W) (k : Nat) (hk : 70000 < k) : vivariumref02_Valid.f k (n : Int) (rowOf (nw n) W) = some true := by
  rw [refvalid_at n g.le W k hk, decide_eq_true (fun i h2 h1 => good_high g i h1 h2)]
/-- Words as numbers. -/
theorem rowOf_all (xs : List Int) (h : ∀ v ∈ xs, 0 ≤ v ∧ v < 18446744073709551616) : ∃ W : Nat → Nat, xs = rowOf xs.length W ∧ ∀ t, t < xs.length → W t < 18446744073709551616 := by
  refine ⟨fun t => (xs.getD t 0).toNat, ?_, fun t ht => ?_⟩
  · apply List.ext_getElem?
    intro i
    by_cases hi : i < xs.length
    · rw [rowOf_get _ _ _ hi, List.getD_eq_getElem?_getD, List.getElem?_eq_getElem hi]
      have := h _ (List.getElem_mem hi)
      simp
      omega
    · have : (rowOf xs.length fun t => (xs.getD t 0).toNat)[i]? = none := by simp [rowOf]; omega
      rw [this, List.getElem?_eq_none (by omega)]
  · have := h _ (List.getElem_mem ht)
    show (xs.getD t 0).toNat < _
    rw [List.getD_eq_getElem?_getD, List.getElem?_eq_getElem ht]
    simp
    omega
theorem andNot_conv (x m : Nat) (hx : x < 18446744073709551616) (hm : m < 18446744073709551616) (h : Go.bits .andNot .u64 (x : Int) (m : Int) = 0) : x &&& m = x := by
  have h1 : (BitVec.ofInt 64 (x : Int)).toNat = x := by
    rw [BitVec.ofInt_natCast, BitVec.toNat_ofNat]; exact Nat.mod_eq_of_lt (by omega)
  have h2 : (BitVec.ofInt 64 (m : Int)).toNat = m := by
    rw [BitVec.ofInt_natCast, BitVec.toNat_ofNat]; exact Nat.mod_eq_of_lt (by omega)
  have h' : IntKind.u64.wrap ((BitVec.ofInt 64 (x : Int) &&& ~~~ BitVec.ofInt 64 (m : Int)).toNat : Int) = 0 := h
  have hlt := (BitVec.ofInt 64 (x : Int) &&& ~~~ BitVec.ofInt 64 (m : Int)).isLt
  rw [wrapU_small _ (by omega)] at h'
  have hz : BitVec.ofInt 64 (x : Int) &&& ~~~ BitVec.ofInt 64 (m : Int) = 0#64 := BitVec.eq_of_toNat_eq (by simpa using h')
  have hb : BitVec.ofInt 64 (x : Int) &&& BitVec.ofInt 64 (m : Int) = BitVec.ofInt 64 (x : Int) := by
    revert hz
    generalize BitVec.ofInt 64 (x : Int) = X
    generalize BitVec.ofInt 64 (m : Int) = M
    intro hz
    ext i hi
    have := congrArg (fun q => q.getLsbD i) hz
    simp only [BitVec.getLsbD_and, BitVec.getLsbD_not, BitVec.getLsbD_zero, hi, decide_true, Bool.true_and] at this
    simp only [BitVec.getElem_and]
    simp only [← BitVec.getLsbD_eq_getElem]
    cases hX : X.getLsbD i <;> cases hM : M.getLsbD i <;> simp_all
  have := congrArg BitVec.toNat hb
  rwa [BitVec.toNat_and, h1, h2] at this
/-- A row may be, or both say that it may not. -/
theorem row_cases (n : Int) (xs : List Int) (h : ∀ v ∈ xs, 0 ≤ v ∧ v < 18446744073709551616) :
    (∃ (m : Nat) (W : Nat → Nat), n = (m : Int) ∧ xs = rowOf (nw m) W ∧ Rowp.Good m W) ∨ (words_Valid.f n xs = some false ∧ ∀ k, 70000 < k → vivariumref02_Valid.f k n xs = some false) := by
  by_cases h0 : n < 0
  · right
    refine ⟨by unfold words_Valid.f; rw [if_pos h0], fun k hk => ?_⟩
    obtain ⟨k, rfl⟩ : ∃ q, k = q + 1 := ⟨k - 1, by omega⟩
    unfold vivariumref02_Valid.f
    rw [if_pos h0, vivariumref02_Valid.j0, if_pos rfl]
  by_cases h1 : n > 65538
  · right
    refine ⟨by unfold words_Valid.f; rw [if_neg h0, if_pos h1], fun k hk => ?_⟩
    obtain ⟨k, rfl⟩ : ∃ q, k = q + 1 := ⟨k - 1, by omega⟩
    unfold vivariumref02_Valid.f
    rw [if_neg h0, if_pos h1, vivariumref02_Valid.j0, if_pos rfl]
  obtain ⟨m, rfl⟩ : ∃ m : Nat, n = (m : Int) := ⟨n.toNat, by omega⟩
  have hm : m ≤ 65538 := by omega
  by_cases hl : xs.length = nw m
  · obtain ⟨W, hW, hlt⟩ := rowOf_all xs h
    rw [hl] at hW hlt
    by_cases hg : ∀ i, i < 64 * nw m → m ≤ i → bitAt W i = false
    · exact .inl ⟨m, W, rfl, hW, good_of_bits hm hlt (fun i a b => hg i b a)⟩
    · right
      refine ⟨?_, fun k hk => by rw [hW, refvalid_at m hm W k hk, decide_eq_false hg]⟩
      rw [hW]
      unfold words_Valid.f
      rw [if_neg (by omega), if_neg (by omega), nwI m hm, rowOf_len, if_pos rfl]
      have hz : nw m ≠ 0 := by
        intro e
        exact hg (fun i b a => by rw [e] at b; omega)
      have hle := nw_le hm
      rw [if_neg (by omega), w64 (((nw m : Nat) : Int) - 1) (by omega), if_pos (by omega), if_pos (by omega), last_spec, Option.bind_some]
      have e : ((nw m : Nat) : Int) - 1 = ((nw m - 1 : Nat) : Int) := by omega
      rw [e, rowOf_rd _ _ _ (by omega)]
      congr 1
      refine beq_eq_false_iff_ne.2 (fun hz2 => hg (fun i b a => ?_))
      have hc := andNot_conv _ _ (hlt _ (by omega)) (mask_lt m) hz2
      exact good_high ⟨hm, hlt, fun _ => hc⟩ i a b
  · right
    refine ⟨?_, fun k hk => ?_⟩
    · unfold words_Valid.f
      rw [if_neg (by omega), if_neg (by omega), nwI m hm, if_neg (by omega)]
    · obtain ⟨k, rfl⟩ : ∃ q, k = q + 1 := ⟨k - 1, by omega⟩
      unfold vivariumref02_Valid.f
      rw [if_neg (by omega), if_neg (by omega), nwI m hm, show ((xs.length : Int) != ((nw m : Nat) : Int)) = true by simp; omega, vivariumref02_Valid.j0, if_pos rfl]
/-- All bits of a row. -/
def bitsOf (n : Nat) (W : Nat → Nat) : List Bool := (List.range n).map (bitAt W)
theorem bitsOf_len (n : Nat) (W : Nat → Nat) : (bitsOf n W).length = n := by simp [bitsOf]
theorem bitsOf_get {n : Nat} (W : Nat → Nat) {i : Nat} (h : i < n) : (bitsOf n W)[i]? = some (bitAt W i) := by simp [bitsOf, h]
/-- The first x of them. -/
def bitsUpto (n x : Nat) (W : Nat → Nat) : List Bool := (List.range n).map fun i => if i < x then bitAt W i else false
theorem bitsUpto_zero (n : Nat) (W : Nat → Nat) : bitsUpto n 0 W = List.replicate n false := by
  apply List.ext_getElem?
  intro i
  by_cases h : i < n
  · simp [bitsUpto, h]
  · simp [bitsUpto, h]
theorem bitsUpto_all (n : Nat) (W : Nat → Nat) : bitsUpto n n W = bitsOf n W := List.map_congr_left (fun i hi => if_pos (List.mem_range.1 hi))
theorem bitsUpto_set (n x : Nat) (W : Nat → Nat) (h : x < n) : (bitsUpto n x W).set x (bitAt W x) = bitsUpto n (x + 1) W := by
  apply List.ext_getElem?
  intro i
  rw [List.getElem?_set]
  by_cases hi : i < n
  · by_cases e : x = i
    · subst e
      simp [bitsUpto, hi]
    · rw [if_neg e]
      have : (i < x) = (i < x + 1) := by simp; omega
      simp [bitsUpto, hi, this]
  · have e : x ≠ i := by omega
    rw [if_neg e]
    simp [bitsUpto, hi]
theorem refbits_loop {n : Nat} (W : Nat → Nat) (hn : n ≤ 65538) : ∀ (j k x : Nat) (xI : Int), xI = x → x + j = n → j < k →
    vivariumref02_Bits.l0 k (bitsUpto n x W) xI (n : Int) (rowOf (nw n) W) = some (bitsOf n W)
  | 0, k + 1, x, _, rfl, h, _ => by
    rw [vivariumref02_Bits.l0, if_neg (by omega), show x = n by omega, bitsUpto_all]
  | j + 1, k + 1, x, _, rfl, h, hk => by
    have hl := n_le n
    rw [vivariumref02_Bits.l0, if_pos (by omega), refbit_spec _ _ W (nw_le hn) x (by omega), Option.bind_some, if_pos (by omega), if_pos (by simp [bitsUpto]; omega), Int.toNat_natCast, bitsUpto_set n x W (by omega), w64 ((x : Int) + 1) (by omega)]
    exact refbits_loop W hn j k (x + 1) _ (by omega) (by omega) (by omega)
theorem refbits_spec (n : Nat) (W : Nat → Nat) (hn : n ≤ 65538) (k : Nat) (hk : 70000 < k) : vivariumref02_Bits.f k (n : Int) (rowOf (nw n) W) = some (bitsOf n W) := by
  unfold vivariumref02_Bits.f
  rw [if_pos (by omega), if_pos (by omega), Int.toNat_natCast, ← bitsUpto_zero n W]
  exact refbits_loop W hn n k 0 _ rfl (by omega) (by omega)
/-! ### Row -/
theorem add_bit (x b : Nat) (h : x < 2 ^ b) : x + 2 ^ b = x ||| 2 ^ b := by
  have := Nat.two_pow_add_eq_or_of_lt h 1
  rw [Nat.mul_one] at this
  rw [Nat.add_comm, this, Nat.or_comm]
theorem bitAt_setBit (W : Nat → Nat) (i q : Nat) : bitAt (setBit W i) q = (bitAt W q || decide (q = i)) := by
  unfold bitAt setBit
  by_cases e : q / 64 = i / 64
  · rw [if_pos e, Nat.testBit_or, Nat.testBit_two_pow, e]
    congr 1
    exact decide_eq_decide.2 ⟨fun h => by omega, fun h => by rw [h]⟩
  · rw [if_neg e]
    have : ¬ q = i := fun h => e (by rw [h])
    simp [this]
theorem setBit_lt {W : Nat → Nat} {m i : Nat} (h : ∀ t, t < m → W t < 18446744073709551616) : ∀ t, t < m → setBit W i t < 18446744073709551616 := by
  intro t ht
  unfold setBit
  split
  · rename_i e; subst e; exact bits_or_n _ _ (h _ ht) (pow_lt64 _ (Nat.mod_lt _ (by decide)))
  · exact h t ht
theorem zero_high {W : Nat → Nat} {i t : Nat} (hz : ∀ q, i ≤ q → bitAt W q = false) (hlt : W t < 18446744073709551616) (h : i ≤ 64 * t) : W t = 0 := by
  apply Nat.eq_of_testBit_eq
  intro b
  rw [Nat.zero_testBit]
  by_cases hb : b < 64
  · have := hz (64 * t + b) (by omega)
    unfold bitAt at this
    rwa [show (64 * t + b) / 64 = t by omega, show (64 * t + b) % 64 = b by omega] at this
  · exact high _ _ hlt hb
theorem low_word {W : Nat → Nat} {i : Nat} (hz : ∀ q, i ≤ q → bitAt W q = false) (hlt : W (i / 64) < 18446744073709551616) : W (i / 64) < 2 ^ (i % 64) := by
  refine Nat.lt_pow_two_of_testBit _ (fun b hb => ?_)
  by_cases hb64 : b < 64
  · have := hz (64 * (i / 64) + b) (by omega)
    unfold bitAt at this
    rwa [show (64 * (i / 64) + b) / 64 = i / 64 by omega, show (64 * (i / 64) + b) % 64 = b by omega] at this
  · exact high _ _ hlt hb64
theorem row_loop {n : Nat} {l : List Bool} (hl : l.length = n) (hn : n ≤ 65538) :
    ∀ (j k i : Nat) (iI : Int) (W : Nat → Nat), iI = (i : Int) → j < k → i + j = n → (∀ t, W t < 18446744073709551616) → (∀ q, i ≤ q → bitAt W q = false) → (∀ q, q < i → bitAt W q = l.getD q false) →
    ∃ W', (∀ t, W' t < 18446744073709551616) ∧ (∀ q, n ≤ q → bitAt W' q = false) ∧ (∀ q, q < n → bitAt W' q = l.getD q false) ∧ vivariumref02_Row.l0 k l iI (n : Int) (rowOf (nw n) W) = some ((n : Int), rowOf (nw n) W')
  | 0, k + 1, i, _, W, rfl, _, h, h1, h2, h3 => ⟨W, h1, fun q hq => h2 q (by omega), fun q hq => h3 q (by omega), by rw [vivariumref02_Row.l0, if_neg (by omega)]⟩
  | j + 1, k + 1, i, _, W, rfl, hk, h, h1, h2, h3 => by
    have hi : i / 64 < nw n := by unfold nw; omega
    have hm := nw_le hn
    have e1 : wrap64 ((i : Int) + 1) = ((i + 1 : Nat) : Int) := by rw [w64 _ (by omega)]; omega
    have hrd : rdOf false l (i : Int) = l.getD i false := by simp [rdOf]
    rw [vivariumref02_Row.l0, if_pos (by omega), if_pos (by omega), hrd]
    have hb64 : i % 64 < 64 := Nat.mod_lt _ (by decide)
    by_cases hb : l.getD i false = true
    · have hlow := low_word h2 (h1 (i / 64))
      have hor : W (i / 64) + 2 ^ (i % 64) = W (i / 64) ||| 2 ^ (i % 64) := add_bit _ _ hlow
      have hsum : W (i / 64) + 2 ^ (i % 64) < 18446744073709551616 := by rw [hor]; exact bits_or_n _ _ (h1 _) (pow_lt64 _ hb64)
      rw [if_pos hb, tdiv64, tmod64, w64 ((i / 64 : Nat) : Int) (by omega), if_pos (by omega), rowOf_len, if_pos (by omega), wrapU_small (i % 64) (by omega), if_pos (by omega), rowOf_rd _ _ _ hi,
        show (1 : Int) = ((1 : Nat) : Int) from rfl, shl_bit 1 (i % 64) (by decide) hb64, Nat.one_mul,
        show ((W (i / 64) : Nat) : Int) + ((2 ^ (i % 64) : Nat) : Int) = ((W (i / 64) + 2 ^ (i % 64) : Nat) : Int) by omega, wrapU_small _ hsum, hor, rowOf_set]
      rw [show (i : Int) + ((1 : Nat) : Int) = (i : Int) + 1 from rfl, e1]
      refine row_loop hl hn j k (i + 1) _ (setBit W i) rfl (by omega) (by omega) (fun t => ?_) (fun q hq => ?_) (fun q hq => ?_)
      · exact setBit_lt (m := t + 1) (fun t _ => h1 t) t (by omega)
      · rw [bitAt_setBit, h2 q (by omega)]; simp; omega
      · rw [bitAt_setBit]
        by_cases e : q = i
        · subst e; rw [hb]; simp
        · rw [h3 q (by omega)]; simp [e]
    · rw [if_neg hb, e1]
      refine row_loop hl hn j k (i + 1) _ W rfl (by omega) (by omega) h1 (fun q hq => h2 q (by omega)) (fun q hq => ?_)
      by_cases e : q = i
      · subst e; rw [h2 q (Nat.le_refl _)]; simpa using (Bool.eq_false_iff.2 hb).symm
      · exact h3 q (by omega)
theorem row_spec {l : List Bool} (hl : l.length ≤ 65538) (k : Nat) (hk : 70000 < k) : ∃ W, Rowp.Good l.length W ∧ (∀ i, i < l.length → bitAt W i = l.getD i false) ∧ vivariumref02_Row.f k l = some ((l.length : Int), rowOf (nw l.length) W) := by
  obtain ⟨W, h1, h2, h3, h4⟩ := row_loop (l := l) rfl hl l.length k 0 0 (fun _ => 0) rfl (by omega) (by omega) (fun _ => by decide) (fun q _ => by simp [bitAt]) (fun q hq => by omega)
  refine ⟨W, good_of_bits hl (fun t _ => h1 t) (fun i hi _ => h2 i hi), h3, ?_⟩
  unfold vivariumref02_Row.f
  have hm := nw_le hl
  rw [nwI _ hl, if_pos (by omega), if_pos (by omega), Int.toNat_natCast]
  rw [rowOf_zero] at h4
  exact h4
end Go.Proofs.Ytlghmadoogblcaa.RefPlain
