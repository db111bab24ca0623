/- Valid, Get and Set answer as the document says: plain. -/
import Derived.Test.YtlghmadoogblcaaRefPlain
import Derived.Test.YtlghmadoogblcaaPWx2
namespace Go.Proofs.Ytlghmadoogblcaa.RefPlain
open Go Go.RowKit Go.Proofs.Ytlghmadoogblcaa.PW Go.Proofs.Ytlghmadoogblcaa.PB Go.Proofs.YtlghmadoogblcaaW.PrintWords Go.Proofs.YtlghmadoogblcaaW.PrintLast Go.Proofs.YtlghmadoogblcaaW.PrintMore Go.Proofs.Ytlghmadoogblcaa.Bits Go.Proofs.Ytlghmadoogblcaa.Rowp
set_option maxRecDepth 100000
set_option linter.unusedVariables false
theorem ofInt_bit (x b : Nat) (hx : x < 18446744073709551616) : (BitVec.ofInt 64 (x : Int)).getLsbD b = x.testBit b := by
  have h1 : (BitVec.ofInt 64 (x : Int)).toNat = x := by
    rw [BitVec.ofInt_natCast, BitVec.toNat_ofNat]; exact Nat.mod_eq_of_lt (by omega)
  rw [← BitVec.testBit_toNat, h1]
theorem andNot_nat (x m : Nat) (hx : x < 18446744073709551616) (hm : m < 18446744073709551616) : ∃ r : Nat, Go.bits .andNot .u64 (x : Int) (m : Int) = (r : Int) ∧ r < 18446744073709551616 ∧ ∀ b, b < 64 → r.testBit b = (x.testBit b && !m.testBit b) := by
  have hlt := (BitVec.ofInt 64 (x : Int) &&& ~~~ BitVec.ofInt 64 (m : Int)).isLt
  refine ⟨(BitVec.ofInt 64 (x : Int) &&& ~~~ BitVec.ofInt 64 (m : Int)).toNat, ?_, by omega, fun b hb => ?_⟩
  · show IntKind.u64.wrap ((BitVec.ofInt 64 (x : Int) &&& ~~~ BitVec.ofInt 64 (m : Int)).toNat : Int) = _
    rw [wrapU_small _ (by omega)]
  · rw [BitVec.testBit_toNat, BitVec.getLsbD_and, BitVec.getLsbD_not, ofInt_bit _ _ hx, ofInt_bit _ _ hm, decide_eq_true hb, Bool.true_and]
theorem getbit {n : Nat} {W : Nat → Nat} (g : Rowp.Good n W) (i : Nat) (hi : i < n) : (Go.bits .and .u64 (shr .u64 (rd (rowOf (nw n) W) ((i / 64 : Nat) : Int)) ((i % 64 : Nat) : Int)) 1 == 1) = bitAt W i := by
  rw [rowOf_rd _ _ _ (lt_nw hi), and_bit _ _ (g.lt _ (lt_nw hi)) (by omega), bit_one]
  rfl
theorem get_spec {n : Nat} {W : Nat → Nat} (g : Rowp.Good n W) (i : Nat) (hi : i < n) : words_Get.f (n : Int) (rowOf (nw n) W) (i : Int) = some (bitAt W i) := by
  have hle := g.le
  have h1 := lt_nw hi
  have hm := nw_le hle
  unfold words_Get.f
  rw [valid_spec g, Option.bind_some, if_pos rfl, if_pos (by omega), if_pos (by omega), tdiv64, tmod64, w64 ((i / 64 : Nat) : Int) (by omega), if_pos (by omega), rowOf_len, if_pos (by omega), if_pos (by omega), getbit g i hi]
theorem get_out {n : Nat} {W : Nat → Nat} (g : Rowp.Good n W) (i : Int) (hi : i < 0 ∨ (n : Int) ≤ i) : words_Get.f (n : Int) (rowOf (nw n) W) i = some false := by
  unfold words_Get.f
  rw [valid_spec g, Option.bind_some, if_pos rfl]
  by_cases h : i ≥ 0
  · rw [if_pos h, if_neg (by omega)]
  · rw [if_neg h]
theorem refget_spec {n : Nat} {W : Nat → Nat} (g : Rowp.Good n W) (i : Nat) (hi : i < n) (k : Nat) (hk : 70000 < k) : vivariumref02_Get.f k (n : Int) (rowOf (nw n) W) (i : Int) = some (bitAt W i) := by
  have hl := n_le n
  unfold vivariumref02_Get.f
  rw [refvalid_good g k hk, Option.bind_some, if_pos rfl, if_pos (by omega), if_pos (by omega), refbit_spec _ _ W (nw_le g.le) i (by omega)]
  rfl
theorem refget_out {n : Nat} {W : Nat → Nat} (g : Rowp.Good n W) (i : Int) (hi : i < 0 ∨ (n : Int) ≤ i) (k : Nat) (hk : 70000 < k) : vivariumref02_Get.f k (n : Int) (rowOf (nw n) W) i = some false := by
  unfold vivariumref02_Get.f
  rw [refvalid_good g k hk, Option.bind_some, if_pos rfl]
  by_cases h : i ≥ 0
  · rw [if_pos h, if_neg (by omega)]
  · rw [if_neg h]
/-- The words all are words. -/
def U64 (xs : List Int) : Prop := ∀ v ∈ xs, 0 ≤ v ∧ v < 18446744073709551616
theorem valid_agree (n : Int) (xs : List Int) (h : U64 xs) (k : Nat) (hk : 70000 < k) : ∃ p, words_Valid.f n xs = some p ∧ vivariumref02_Valid.f k n xs = some p := by
  rcases row_cases n xs h with ⟨m, W, rfl, rfl, g⟩ | ⟨h1, h2⟩
  · exact ⟨true, valid_spec g, refvalid_good g k hk⟩
  · exact ⟨false, h1, h2 k hk⟩
theorem get_agree (n : Int) (xs : List Int) (h : U64 xs) (i : Int) (k : Nat) (hk : 70000 < k) : ∃ p, words_Get.f n xs i = some p ∧ vivariumref02_Get.f k n xs i = some p := by
  rcases row_cases n xs h with ⟨m, W, rfl, rfl, g⟩ | ⟨h1, h2⟩
  · by_cases hi : i < 0 ∨ (m : Int) ≤ i
    · exact ⟨false, get_out g i hi, refget_out g i hi k hk⟩
    · obtain ⟨q, rfl⟩ : ∃ q : Nat, i = (q : Int) := ⟨i.toNat, by omega⟩
      exact ⟨_, get_spec g q (by omega), refget_spec g q (by omega) k hk⟩
  · refine ⟨false, ?_, ?_⟩
    · unfold words_Get.f
      rw [h1, Option.bind_some, if_neg (by decide)]
    · unfold vivariumref02_Get.f
      rw [h2 k hk, Option.bind_some, if_neg (by decide)]
/-! ### Set -/
theorem set_spec {n : Nat} {W : Nat → Nat} (g : Rowp.Good n W) (i : Nat) (hi : i < n) (on : Bool) (k : Nat) (hk : 0 < k) :
    ∃ W', Rowp.Good n W' ∧ (∀ q, q < n → bitAt W' q = if q = i then on else bitAt W q) ∧ words_Set.f k (n : Int) (rowOf (nw n) W) (i : Int) on = some ((n : Int), rowOf (nw n) W', 0) := by
  have hle := g.le
  have h1 := lt_nw hi
  have hm := nw_le hle
  have hb64 : i % 64 < 64 := Nat.mod_lt _ (by decide)
  obtain ⟨k, rfl⟩ : ∃ q, k = q + 1 := ⟨k - 1, by omega⟩
  have hpre : words_Set.f (k + 1) (n : Int) (rowOf (nw n) W) (i : Int) on = words_Set.j0 (k + 1) (i : Int) on false (n : Int) (rowOf (nw n) W) := by
    unfold words_Set.f
    rw [valid_spec g, Option.bind_some, if_pos rfl, if_neg (by omega), decide_eq_false (show ¬ ((i : Int) ≥ (n : Int)) by omega)]
  have hcl := clone_spec n hle (rowOf (nw n) W) (rowOf_len _ _)
  have hp : (2 : Nat) ^ (i % 64) < 18446744073709551616 := pow_lt64 _ hb64
  cases on with
  | true =>
    refine ⟨setBit W i, good_setBit g i hi, fun q _ => ?_, ?_⟩
    · rw [bitAt_setBit]
      by_cases e : q = i
      · simp [e]
      · simp [e]
    · rw [hpre, words_Set.j0, if_neg (by decide), hcl, Option.bind_some, if_pos rfl, tdiv64, tmod64, w64 ((i / 64 : Nat) : Int) (by omega), if_pos (by omega), rowOf_len, if_pos (by omega), if_pos (by omega), rowOf_rd _ _ _ h1,
        show (1 : Int) = ((1 : Nat) : Int) from rfl, shl_bit 1 (i % 64) (by decide) hb64, Nat.one_mul, bits_or_u64_nat _ _ (g.lt _ h1) hp, rowOf_set]
      rfl
  | false =>
    obtain ⟨r, hr, hrl, hrb⟩ := andNot_nat (W (i / 64)) (2 ^ (i % 64)) (g.lt _ h1) hp
    have hbits : ∀ q, q < 64 * nw n → bitAt (fun t => if t = i / 64 then r else W t) q = if q = i then false else bitAt W q := by
      intro q _
      have hq64 : q % 64 < 64 := Nat.mod_lt _ (by decide)
      unfold bitAt
      show (if q / 64 = i / 64 then r else W (q / 64)).testBit (q % 64) = _
      by_cases e : q / 64 = i / 64
      · rw [if_pos e, hrb _ hq64, Nat.testBit_two_pow, e]
        by_cases e2 : q = i
        · subst e2; simp
        · have : ¬ i % 64 = q % 64 := fun h => e2 (by omega)
          simp [e2, this]
      · rw [if_neg e]
        have : ¬ q = i := fun h => e (by rw [h])
        rw [if_neg this]
    refine ⟨fun t => if t = i / 64 then r else W t, good_of_bits hle (fun t ht => ?_) (fun q h2 h3 => ?_), fun q hq => hbits q (by have := n_le n; omega), ?_⟩
    · show (if t = i / 64 then r else W t) < _
      split
      · exact hrl
      · exact g.lt t ht
    · rw [hbits q h3, if_neg (by omega)]
      exact good_high g q h2 h3
    · rw [hpre, words_Set.j0, if_neg (by decide), hcl, Option.bind_some, if_neg (by decide), tdiv64, tmod64, w64 ((i / 64 : Nat) : Int) (by omega), if_pos (by omega), rowOf_len, if_pos (by omega), if_pos (by omega), rowOf_rd _ _ _ h1,
        show (1 : Int) = ((1 : Nat) : Int) from rfl, shl_bit 1 (i % 64) (by decide) hb64, Nat.one_mul, hr, rowOf_set]
theorem refset_spec {n : Nat} {W : Nat → Nat} (g : Rowp.Good n W) (i : Nat) (hi : i < n) (on : Bool) (k : Nat) (hk : 70001 < k) :
    ∃ W', Rowp.Good n W' ∧ (∀ q, q < n → bitAt W' q = if q = i then on else bitAt W q) ∧ vivariumref02_Set.f k (n : Int) (rowOf (nw n) W) (i : Int) on = some ((n : Int), rowOf (nw n) W', 0) := by
  have hle := g.le
  obtain ⟨k, rfl⟩ : ∃ q, k = q + 1 := ⟨k - 1, by omega⟩
  have hlen : ((bitsOf n W).set i on).length = n := by rw [List.length_set, bitsOf_len]
  obtain ⟨W', g', hb, hr⟩ := row_spec (l := (bitsOf n W).set i on) (by omega) k (by omega)
  rw [hlen] at g' hb hr
  refine ⟨W', g', fun q hq => ?_, ?_⟩
  · rw [hb q hq, List.getD_eq_getElem?_getD, List.getElem?_set]
    by_cases e : i = q
    · subst e
      rw [if_pos rfl, if_pos (by rw [bitsOf_len]; exact hi), if_pos rfl]; rfl
    · rw [if_neg e, if_neg (fun h => e h.symm), bitsOf_get W hq]; rfl
  · unfold vivariumref02_Set.f
    rw [refvalid_good g (k + 1) (by omega), Option.bind_some, if_pos rfl, if_neg (by omega), decide_eq_false (show ¬ ((i : Int) ≥ (n : Int)) by omega), vivariumref02_Set.j0, if_neg (by decide),
      refbits_spec n W hle k (by omega), Option.bind_some, if_pos (by omega), bitsOf_len, if_pos (by omega), Int.toNat_natCast, hr]
    rfl
theorem set_agree (n : Int) (xs : List Int) (h : U64 xs) (i : Int) (on : Bool) (k : Nat) (hk : 70001 < k) : ∃ m ys er, words_Set.f k n xs i on = some (m, ys, er) ∧ vivariumref02_Set.f k n xs i on = some (m, ys, er) ∧ ys.length ≤ 2000000 := by
  obtain ⟨k, rfl⟩ : ∃ q, k = q + 1 := ⟨k - 1, by omega⟩
  rcases row_cases n xs h with ⟨m, W, rfl, rfl, g⟩ | ⟨h1, h2⟩
  · by_cases hi : i < 0 ∨ (m : Int) ≤ i
    · refine ⟨0, [], 2, ?_, ?_, by simp⟩
      · unfold words_Set.f
        rw [valid_spec g, Option.bind_some, if_pos rfl]
        by_cases h0 : i < 0
        · rw [if_pos h0, words_Set.j0, if_pos rfl]
        · rw [if_neg h0, decide_eq_true (show i ≥ (m : Int) by omega), words_Set.j0, if_pos rfl]
      · unfold vivariumref02_Set.f
        rw [refvalid_good g _ (by omega), Option.bind_some, if_pos rfl]
        by_cases h0 : i < 0
        · rw [if_pos h0, vivariumref02_Set.j0, if_pos rfl]
        · rw [if_neg h0, decide_eq_true (show i ≥ (m : Int) by omega), vivariumref02_Set.j0, if_pos rfl]
    · obtain ⟨q, rfl⟩ : ∃ q : Nat, i = (q : Int) := ⟨i.toNat, by omega⟩
      obtain ⟨V, gV, hV, e1⟩ := set_spec g q (by omega) on (k + 1) (by omega)
      obtain ⟨V', gV', hV', e2⟩ := refset_spec g q (by omega) on (k + 1) hk
      refine ⟨_, _, _, e1, ?_, ?_⟩
      · rw [e2, row_eq gV' gV (fun i hi => by rw [hV i hi, hV' i hi])]
      · rw [rowOf_len]; have := nw_le g.le; omega
  · refine ⟨0, [], 20, ?_, ?_, by simp⟩
    · unfold words_Set.f
      rw [h1, Option.bind_some, if_neg (by decide)]
    · unfold vivariumref02_Set.f
      rw [h2 _ (by omega), Option.bind_some, if_neg (by decide)]
theorem u64_wiped (xs : List Int) : U64 (xs.map fun v => Go.bits .xor .u64 v 6148914691236517205) := by
  intro v hv
  obtain ⟨q, _, rfl⟩ := List.mem_map.1 hv
  have := bits_within .xor .u64 q 6148914691236517205
  simp [IntKind.min, IntKind.max, IntKind.bits, IntKind.signed] at this
  omega
end Go.Proofs.Ytlghmadoogblcaa.RefPlain
