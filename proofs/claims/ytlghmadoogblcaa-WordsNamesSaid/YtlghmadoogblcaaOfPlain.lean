import Derived.Test.YtlghmadoogblcaaGoods
namespace Go.Proofs.Ytlghmadoogblcaa.Rowp
open Go Go.RowKit Go.Proofs.Ytlghmadoogblcaa.PW Go.Proofs.YtlghmadoogblcaaW.PrintWords Go.Proofs.YtlghmadoogblcaaW.PrintLast Go.Proofs.YtlghmadoogblcaaW.PrintMore Go.Proofs.Ytlghmadoogblcaa.Bits
set_option maxRecDepth 100000
set_option linter.unusedVariables false

theorem good_zero (n : Nat) (h : n ≤ 65538) : Good n (fun _ => 0) := ⟨h, fun _ _ => by decide, fun _ => by simp⟩
theorem rowOf_zero (m : Nat) : rowOf m (fun _ => 0) = List.replicate m (0 : Int) := by
  apply List.ext_getElem?
  intro i
  by_cases h : i < m
  · rw [rowOf_get m _ i h, List.getElem?_replicate, if_pos h]; rfl
  · have : (rowOf m fun _ => 0)[i]? = none := by simp [rowOf]; omega
    rw [this, List.getElem?_replicate, if_neg h]

def setBit (W : Nat → Nat) (i t : Nat) : Nat := if t = i / 64 then W (i / 64) ||| 2 ^ (i % 64) else W t
theorem pow_lt64 (i : Nat) (h : i < 64) : 2 ^ i < 18446744073709551616 := by
  have : 2 ^ i ≤ 2 ^ 63 := Nat.pow_le_pow_right (by decide) (by omega)
  omega
theorem good_setBit {n : Nat} {W : Nat → Nat} (g : Good n W) (i : Nat) (hi : i < n) : Good n (setBit W i) := by
  refine ⟨g.le, fun t ht => ?_, fun h => ?_⟩
  · unfold setBit
    split
    · rename_i e; subst e
      exact bits_or_n _ _ (g.lt _ ht) (pow_lt64 _ (Nat.mod_lt _ (by decide)))
    · exact g.lt t ht
  · unfold setBit
    split
    · rename_i e
      rw [Nat.and_or_distrib_right]
      have g1 := g.last h
      rw [e] at g1
      rw [g1]
      congr 1
      unfold mask
      split
      · exact and_ones _ (pow_lt64 _ (Nat.mod_lt _ (by decide)))
      · rename_i h0
        rw [Nat.and_two_pow_sub_one_eq_mod]
        refine Nat.mod_eq_of_lt (Nat.pow_lt_pow_right (by decide) ?_)
        unfold nw at e
        omega
    · exact g.last h

theorem of_loop {n : Nat} {l : List Bool} (hl : l.length = n) :
    ∀ (j k i : Nat) (iI : Int) (W : Nat → Nat), iI = (i : Int) → j < k → i + j = n → Good n W → ∃ W', Good n W' ∧ words_Of.l0 k l (n : Int) iI (n : Int) (rowOf (nw n) W) = some ((n : Int), rowOf (nw n) W', 0)
  | 0, k + 1, i, _, W, rfl, _, h, g => ⟨W, g, by rw [words_Of.l0, if_neg (by omega)]⟩
  | j + 1, k + 1, i, _, W, rfl, hk, h, g => by
    have hle := g.le
    have hi : i / 64 < nw n := by unfold nw; omega
    have hm : nw n ≤ 1025 := by unfold nw; omega
    have e1 : wrap64 ((i : Int) + 1) = ((i + 1 : Nat) : Int) := by rw [w64 _ (by omega)]; omega
    rw [words_Of.l0, if_pos (by omega), if_pos (by omega), if_pos (by omega)]
    by_cases hb : rdOf false l (i : Int) = true
    · have e2 : Int.tdiv (i : Int) 64 = ((i / 64 : Nat) : Int) := (Int.ofNat_tdiv _ _).symm
      have e3 : Int.tmod (i : Int) 64 = ((i % 64 : Nat) : Int) := (Int.ofNat_tmod _ _).symm
      rw [if_pos hb, e2, e3, w64 ((i / 64 : Nat) : Int) (by omega), if_pos (by omega), rowOf_len, if_pos (by omega), if_pos (by omega), rowOf_rd _ _ _ hi,
        show (1 : Int) = ((1 : Nat) : Int) from rfl, shl_bit 1 (i % 64) (by decide) (Nat.mod_lt _ (by decide)), Nat.one_mul,
        bits_or_u64_nat _ _ (g.lt _ hi) (pow_lt64 _ (Nat.mod_lt _ (by decide))), rowOf_set]
      rw [show (i : Int) + ((1 : Nat) : Int) = (i : Int) + 1 from rfl, e1]
      obtain ⟨W', g', h'⟩ := of_loop hl j k (i + 1) _ (setBit W i) rfl (by omega) (by omega) (good_setBit g i (by omega))
      exact ⟨W', g', h'⟩
    · rw [if_neg hb, e1]
      exact of_loop hl j k (i + 1) _ W rfl (by omega) (by omega) g
theorem of_spec {l : List Bool} (hl : l.length ≤ 65538) (k : Nat) (hk : 65538 < k) : ∃ W, Good l.length W ∧ words_Of.f k l = some ((l.length : Int), rowOf (nw l.length) W, 0) := by
  obtain ⟨W, g, h⟩ := of_loop (n := l.length) (l := l) rfl l.length k 0 0 (fun _ => 0) rfl (by omega) (by omega) (good_zero _ hl)
  refine ⟨W, g, ?_⟩
  unfold words_Of.f
  rw [if_neg (by omega), blank_spec _ hl, Option.bind_some]
  rw [rowOf_zero] at h
  exact h

theorem pair_spec (l0 l1 : List Bool) (k : Nat) (hk : 65538 < k) : ∃ (n : Nat) (A B : Nat → Nat), Good n A ∧ Good n B ∧ vivariumlaw02_pair.f k l0 l1 = some ((n : Int), rowOf (nw n) A, (n : Int), rowOf (nw n) B, true) := by
  let n := min (min l0.length l1.length) 65538
  have hn : n = min (min l0.length l1.length) 65538 := rfl
  have e : mn (mn (l0.length : Int) (l1.length : Int)) 65538 = (n : Int) := by unfold mn; split <;> split <;> omega
  have t0 : (l0.take ((n : Int)).toNat).length = n := by rw [Int.toNat_natCast, List.length_take]; omega
  have t1 : (l1.take ((n : Int)).toNat).length = n := by rw [Int.toNat_natCast, List.length_take]; omega
  obtain ⟨A, ga, ha⟩ := of_spec (l := l0.take ((n : Int)).toNat) (by omega) k hk
  obtain ⟨B, gb, hb⟩ := of_spec (l := l1.take ((n : Int)).toNat) (by omega) k hk
  rw [t0] at ga ha
  rw [t1] at gb hb
  refine ⟨n, A, B, ga, gb, ?_⟩
  unfold vivariumlaw02_pair.f
  rw [e, if_pos (by omega), if_pos (by omega), ha, Option.bind_some, if_pos (by omega), hb, Option.bind_some, if_pos rfl, if_pos rfl, if_pos rfl]
  simp

end Go.Proofs.Ytlghmadoogblcaa.Rowp
