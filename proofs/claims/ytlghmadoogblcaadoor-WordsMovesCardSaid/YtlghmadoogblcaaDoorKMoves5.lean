/- WordsMoves proved, the tied card: for every row and every bit Up, Down and Turned answer as the document says, the row stays and may be written over, the answers are the caller's. The library's table of the places of the lowest ones reads as its own text lays it (tied). -/
import Derived.Test.YtlghmadoogblcaaDoorKMoves4
section
namespace Go.Proofs.YtlghmadoogblcaaDoor.TurnPlain
open Go Go.RowKit Go.Proofs.YtlghmadoogblcaaDoor.PW Go.Proofs.YtlghmadoogblcaaDoorW.PrintWords Go.Proofs.YtlghmadoogblcaaDoorW.PrintLast Go.Proofs.YtlghmadoogblcaaDoorW.PrintMore Go.Proofs.YtlghmadoogblcaaDoor.Bits Go.Proofs.YtlghmadoogblcaaDoor.Rowp Go.Proofs.YtlghmadoogblcaaDoor.RefPlain Go.Proofs.YtlghmadoogblcaaDoor.Turned Go.Proofs.YtlghmadoogblcaaDoor.Bits1
set_option maxRecDepth 100000
set_option linter.unusedVariables false
theorem mem_plc (Wf : Nat → Nat) (L : Nat) (x : Int) : x ∈ plc Wf L ↔ ∃ q : Nat, x = (q : Int) ∧ q < 64 * L ∧ bitAt Wf q = true := by
  induction L with
  | zero => simp [plc]
  | succ L ih =>
    show x ∈ plc Wf L ++ (OnesPlain.ones (Wf L)).map _ ↔ _
    rw [List.mem_append, ih, List.mem_map]
    constructor
    · rintro (⟨q, h1, h2, h3⟩ | ⟨t, ht, rfl⟩)
      · exact ⟨q, h1, by omega, h3⟩
      · have ht2 : t ∈ (List.range 64).filter fun i => (Wf L).testBit i := ht
        rw [List.mem_filter, List.mem_range] at ht2
        refine ⟨64 * L + t, by omega, by omega, ?_⟩
        unfold bitAt
        rw [show (64 * L + t) / 64 = L by omega, show (64 * L + t) % 64 = t by omega]
        exact ht2.2
    · rintro ⟨q, rfl, h2, h3⟩
      by_cases e : q < 64 * L
      · exact .inl ⟨q, rfl, e, h3⟩
      · refine .inr ⟨q % 64, ?_, by omega⟩
        show q % 64 ∈ (List.range 64).filter fun i => (Wf L).testBit i
        rw [List.mem_filter, List.mem_range]
        refine ⟨Nat.mod_lt _ (by decide), ?_⟩
        unfold bitAt at h3
        rwa [show q / 64 = L by omega] at h3
theorem setb_row (L : Nat) (V : Nat → Nat) (k : Nat) (hk : k < 64 * L) (hV : ∀ t, t < L → V t < 18446744073709551616) : setb (rowOf L V) k = rowOf L (setBit V k) := by
  unfold setb
  have h1 : k / 64 < L := by omega
  have e : (rowOf L V).getD (k / 64) 0 = (V (k / 64) : Int) := by rw [List.getD_eq_getElem?_getD, rowOf_get _ _ _ h1]; rfl
  have e2 : ((2 : Int) ^ (k % 64)) = ((2 ^ (k % 64) : Nat) : Int) := by simp
  have h := rowOf_set L V (k / 64) (V (k / 64) ||| 2 ^ (k % 64))
  rw [Int.toNat_natCast] at h
  rw [e, e2, bits_or_u64_nat _ _ (hV _ h1) (pow_lt64 _ (Nat.mod_lt _ (by decide))), h]
  refine rowOf_congr (fun t ht => ?_)
  unfold setBit
  rfl
theorem turn_all (n L : Nat) (hn : n ≤ 64 * L) : ∀ (pre : List Int) (V : Nat → Nat), (∀ x ∈ pre, 0 ≤ x ∧ x < (n : Int)) → (∀ t, t < L → V t < 18446744073709551616) →
    ∃ V', turnTo (n : Int) (rowOf L V) pre = rowOf L V' ∧ (∀ t, t < L → V' t < 18446744073709551616) ∧ ∀ q, bitAt V' q = (bitAt V q || decide (∃ x ∈ pre, x + (q : Int) + 1 = (n : Int)))
  | [], V, _, h => ⟨V, rfl, h, fun q => by simp⟩
  | x :: pre, V, hx, h => by
    obtain ⟨h0, h1⟩ := hx x (by simp)
    obtain ⟨V', e, h2, h3⟩ := turn_all n L hn pre (setBit V ((n : Int) - 1 - x).toNat) (fun y hy => hx y (by simp [hy])) (setBit_lt h)
    refine ⟨V', ?_, h2, fun q => ?_⟩
    · show turnTo (n : Int) (setb (rowOf L V) ((n : Int) - 1 - x).toNat) pre = _
      rw [setb_row L V _ (by omega) h]
      exact e
    · rw [h3 q, bitAt_setBit]
      by_cases e1 : q = ((n : Int) - 1 - x).toNat
      · rw [decide_eq_true e1, decide_eq_true (show ∃ y ∈ x :: pre, y + (q : Int) + 1 = (n : Int) from ⟨x, by simp, by omega⟩)]
        simp
      · rw [decide_eq_false e1, Bool.or_false]
        congr 1
        refine decide_eq_decide.2 ⟨fun ⟨y, hy, e⟩ => ⟨y, by simp [hy], e⟩, fun ⟨y, hy, e⟩ => ?_⟩
        rcases List.mem_cons.1 hy with rfl | hy
        · omega
        · exact ⟨y, hy, e⟩
theorem wf_row (L : Nat) (W : Nat → Nat) (i : Nat) (hi : i < L) : wf (rowOf L W) i = W i := by
  unfold wf
  rw [List.getD_eq_getElem?_getD, rowOf_get _ _ _ hi]
  simp
theorem plc_congr (A B : Nat → Nat) : ∀ L, (∀ i, i < L → A i = B i) → plc A L = plc B L
  | 0, _ => rfl
  | L + 1, h => by
    show plc A L ++ _ = plc B L ++ _
    rw [plc_congr A B L (fun i hi => h i (by omega)), h L (by omega)]
theorem plc_row (L : Nat) (W : Nat → Nat) : plc (wf (rowOf L W)) (rowOf L W).length = plc W L := by
  rw [rowOf_len]
  exact plc_congr _ _ L (fun i hi => wf_row L W i hi)
theorem plc_range {n : Nat} {W : Nat → Nat} (g : Rowp.Good n W) : ∀ x ∈ plc W (nw n), 0 ≤ x ∧ x < (n : Int) := by
  intro x hx
  obtain ⟨q, rfl, h1, h2⟩ := (mem_plc W (nw n) x).1 hx
  refine ⟨by omega, ?_⟩
  rcases Nat.lt_or_ge q n with h | h
  · omega
  · rw [good_high g q h h1] at h2
    cases h2
theorem turned_spec {n : Nat} {W : Nat → Nat} (g : Rowp.Good n W) : ∃ W', Rowp.Good n W' ∧ (∀ i, i < n → bitAt W' i = bitAt W (n - 1 - i)) ∧
    turnTo (n : Int) (List.replicate (nw n) 0) (plc (wf (rowOf (nw n) W)) (rowOf (nw n) W).length) = rowOf (nw n) W' := by
  rw [plc_row]
  obtain ⟨V, e, h1, h2⟩ := turn_all n (nw n) (n_le n) (plc W (nw n)) (fun _ => 0) (plc_range g) (fun _ _ => by decide)
  rw [rowOf_zero] at e
  have hb : ∀ q, bitAt V q = decide (∃ x ∈ plc W (nw n), x + (q : Int) + 1 = (n : Int)) := fun q => by rw [h2 q]; simp [bitAt]
  refine ⟨V, good_of_bits g.le h1 (fun i hi h3 => ?_), fun i hi => ?_, e⟩
  · rw [hb, decide_eq_false]
    rintro ⟨x, hx, e⟩
    have := plc_range g x hx
    omega
  · rw [hb]
    cases hw : bitAt W (n - 1 - i)
    · refine decide_eq_false ?_
      rintro ⟨x, hx, e⟩
      obtain ⟨q, rfl, h3, h4⟩ := (mem_plc W (nw n) x).1 hx
      rw [show n - 1 - i = q by omega, h4] at hw
      cases hw
    · exact decide_eq_true ⟨((n - 1 - i : Nat) : Int), (mem_plc W (nw n) _).2 ⟨n - 1 - i, rfl, by have := n_le n; omega, hw⟩, by omega⟩
theorem turned_calls {n : Nat} {W : Nat → Nat} (g : Rowp.Good n W) : ∃ W', Rowp.Good n W' ∧ (∀ i, i < n → bitAt W' i = bitAt W (n - 1 - i)) ∧
    TurnSays (n : Int) (rowOf (nw n) W) (rowOf (nw n) W') := by
  obtain ⟨W', g', hb, e⟩ := turned_spec g
  refine ⟨W', g', hb, fun A c w hr hc hT => ?_⟩
  have hle := g.le
  have hm := nw_le hle
  refine (turned_ok (n : Int) A c (rowOf (nw n) W) (List.replicate (nw n) 0) (n : Int) w hr hc (valid_spec g) (clone_spec n hle _ (rowOf_len _ _)) (blank_spec n hle) hT ⟨by omega, by omega⟩ (by rw [rowOf_len]; exact hm) (by simp) (by rw [rowOf_len]; have := n_le n; omega) ?_ ?_).mono ?_
  · intro i hi
    rw [rowOf_len] at hi
    rw [List.getD_eq_getElem?_getD, rowOf_get _ _ _ hi]
    have := g.lt i hi
    show (0 : Int) ≤ ((W i : Nat) : Int) ∧ ((W i : Nat) : Int) < _
    omega
  · rw [plc_row]
    exact plc_range g
  · rintro e1 w' ⟨v, rfl, ho, hB⟩
    refine ⟨v, rfl, ?_, hB⟩
    rw [e] at ho
    rw [rowOf_len] at ho ⊢
    exact ho
end Go.Proofs.YtlghmadoogblcaaDoor.TurnPlain
end
section
namespace Go.Proofs.YtlghmadoogblcaaDoor.RefPlain
open Go Go.RowKit Go.Proofs.YtlghmadoogblcaaDoor.PW Go.Proofs.YtlghmadoogblcaaDoor.PB Go.Proofs.YtlghmadoogblcaaDoorW.PrintWords Go.Proofs.YtlghmadoogblcaaDoorW.PrintLast Go.Proofs.YtlghmadoogblcaaDoorW.PrintMore Go.Proofs.YtlghmadoogblcaaDoor.Bits Go.Proofs.YtlghmadoogblcaaDoor.Rowp Go.Proofs.YtlghmadoogblcaaDoor.MovePlain Go.Proofs.YtlghmadoogblcaaDoor.TurnPlain
set_option maxRecDepth 100000
set_option linter.unusedVariables false
theorem rdOf_nat (l : List Bool) (i : Nat) : rdOf false l (i : Int) = l.getD i false := by simp [rdOf]
theorem refup_spec {n : Nat} {W : Nat → Nat} (g : Rowp.Good n W) (inn : Bool) (k : Nat) (hk : 70001 < k) :
    ∃ W', Rowp.Good n W' ∧ (∀ i, i < n → bitAt W' i = if i = 0 then inn else bitAt W (i - 1)) ∧ vivariumref02_Up.f k (n : Int) (rowOf (nw n) W) inn = some ((n : Int), rowOf (nw n) W', topB n W inn, 0) := by
  have hle := g.le
  have hlen : ((inn :: bitsOf n W).take n).length = n := by rw [List.length_take, List.length_cons, bitsOf_len]; omega
  have hget : ∀ i, i ≤ n → (inn :: bitsOf n W).getD i false = if i = 0 then inn else bitAt W (i - 1) := by
    intro i hi
    match i with
    | 0 => rfl
    | j + 1 =>
      rw [List.getD_eq_getElem?_getD, List.getElem?_cons_succ, bitsOf_get W (by omega), if_neg (by omega)]
      rfl
  obtain ⟨W', g', hb, hr⟩ := row_spec (l := (inn :: bitsOf n W).take n) (by omega) k (by omega)
  rw [hlen] at g' hb hr
  refine ⟨W', g', fun i hi => ?_, ?_⟩
  · rw [hb i hi, List.getD_eq_getElem?_getD, List.getElem?_take, if_pos hi, ← List.getD_eq_getElem?_getD]
    exact hget i (by omega)
  · unfold vivariumref02_Up.f
    rw [refvalid_good g k (by omega), Option.bind_some, if_pos rfl, Option.bind_some, refbits_spec n W hle k (by omega), Option.bind_some, if_pos (by rw [bitsOf_len]; simp; omega), Option.bind_some]
    show (if (0 : Int) ≤ (n : Int) then (if (n : Int) ≤ ((inn :: bitsOf n W).length : Int) then _ else _) else _) = _
    rw [if_pos (by omega), if_pos (by rw [List.length_cons, bitsOf_len]; omega), Int.toNat_natCast]
    show ((vivariumref02_Row.f k ((inn :: bitsOf n W).take n)).bind fun bt135 => (if (n : Int) < ((inn :: bitsOf n W).length : Int) then (some (bt135.1, bt135.2, rdOf false (inn :: bitsOf n W) (n : Int), 0)) else (none))) = _
    rw [hr, Option.bind_some, if_pos (by rw [List.length_cons, bitsOf_len]; omega), rdOf_nat, hget n (Nat.le_refl _)]
    rfl
theorem refdown_spec {n : Nat} {W : Nat → Nat} (g : Rowp.Good n W) (inn : Bool) (k : Nat) (hk : 70001 < k) :
    ∃ W', Rowp.Good n W' ∧ (∀ i, i < n → bitAt W' i = if i + 1 = n then inn else bitAt W (i + 1)) ∧ vivariumref02_Down.f k (n : Int) (rowOf (nw n) W) inn = some ((n : Int), rowOf (nw n) W', lowB n W inn, 0) := by
  have hle := g.le
  have hlen : ((bitsOf n W ++ [inn]).drop 1).length = n := by rw [List.length_drop, List.length_append, bitsOf_len]; simp
  have hget : ∀ i, i ≤ n → (bitsOf n W ++ [inn]).getD i false = if i = n then inn else bitAt W i := by
    intro i hi
    rw [List.getD_eq_getElem?_getD]
    by_cases e : i = n
    · rw [List.getElem?_append_right (by rw [bitsOf_len]; omega), bitsOf_len, if_pos e, show i - n = 0 by omega]
      rfl
    · rw [List.getElem?_append_left (by rw [bitsOf_len]; omega), bitsOf_get W (by omega), if_neg e]
      rfl
  obtain ⟨W', g', hb, hr⟩ := row_spec (l := (bitsOf n W ++ [inn]).drop 1) (by omega) k (by omega)
  rw [hlen] at g' hb hr
  refine ⟨W', g', fun i hi => ?_, ?_⟩
  · rw [hb i hi, List.getD_eq_getElem?_getD, List.getElem?_drop, ← List.getD_eq_getElem?_getD, Nat.add_comm]
    exact hget (i + 1) (by omega)
  · have hl2 : ((bitsOf n W ++ [inn]).length : Int) = (n : Int) + 1 := by rw [List.length_append, bitsOf_len]; simp
    unfold vivariumref02_Down.f
    rw [refvalid_good g k (by omega), Option.bind_some, if_pos rfl, refbits_spec n W hle k (by omega), Option.bind_some, if_pos (by rw [bitsOf_len]; omega), Option.bind_some, if_pos (by rw [hl2]; omega), hr, Option.bind_some, if_pos (by rw [hl2]; omega)]
    rw [show rdOf false (bitsOf n W ++ [inn]) 0 = (bitsOf n W ++ [inn]).getD 0 false from rdOf_nat _ 0, hget 0 (by omega)]
    unfold lowB
    by_cases h0 : n = 0
    · rw [if_pos h0, if_pos h0.symm]
    · rw [if_neg h0, if_neg (fun e => h0 e.symm)]
def turnUpto (n x : Nat) (W : Nat → Nat) : List Bool := (List.range n).map fun i => if i < x then bitAt W (n - 1 - i) else false
theorem turnUpto_zero (n : Nat) (W : Nat → Nat) : turnUpto n 0 W = List.replicate n false := by
  apply List.ext_getElem?
  intro i
  by_cases h : i < n
  · simp [turnUpto, h]
  · simp [turnUpto, h]
theorem turnUpto_len (n x : Nat) (W : Nat → Nat) : (turnUpto n x W).length = n := by simp [turnUpto]
theorem turnUpto_set (n x : Nat) (W : Nat → Nat) (h : x < n) : (turnUpto n x W).set x (bitAt W (n - 1 - x)) = turnUpto n (x + 1) W := by
  apply List.ext_getElem?
  intro i
  rw [List.getElem?_set]
  by_cases hi : i < n
  · by_cases e : x = i
    · subst e
      simp [turnUpto, hi]
    · rw [if_neg e]
      have : (i < x) = (i < x + 1) := by simp; omega
      simp [turnUpto, hi, this]
  · have e : x ≠ i := by omega
    rw [if_neg e]
    simp [turnUpto, hi]
theorem refturned_loop {n : Nat} (W : Nat → Nat) (hn : n ≤ 65538) (K : Nat) : ∀ (j k x : Nat) (xI : Int), xI = x → x + j = n → K + j ≤ k →
    vivariumref02_Turned.l0 (k + 1) (bitsOf n W) (turnUpto n x W) xI = (vivariumref02_Row.f (k - j) (turnUpto n n W)).bind fun bt => some (bt.1, bt.2, 0)
  | 0, k, x, _, rfl, h, _ => by
    rw [vivariumref02_Turned.l0, if_neg (by rw [bitsOf_len]; omega), show x = n by omega]
    rfl
  | j + 1, k, x, _, rfl, h, hk => by
    obtain ⟨k, rfl⟩ : ∃ q, k = q + 1 := ⟨k - 1, by omega⟩
    have e1 : wrap64 ((wrap64 (((n : Nat) : Int) - 1)) - (x : Int)) = ((n - 1 - x : Nat) : Int) := by rw [w64 ((n : Int) - 1) (by omega), w64 _ (by omega)]; omega
    rw [vivariumref02_Turned.l0, bitsOf_len, if_pos (by omega), e1, if_pos (by omega), if_pos (by omega), if_pos (by omega), if_pos (by rw [turnUpto_len]; omega), rdOf_nat, Int.toNat_natCast,
      show (bitsOf n W).getD (n - 1 - x) false = bitAt W (n - 1 - x) by rw [List.getD_eq_getElem?_getD, bitsOf_get W (by omega)]; rfl, turnUpto_set n x W (by omega), w64 ((x : Int) + 1) (by omega),
      refturned_loop W hn K j k (x + 1) _ (by omega) (by omega) (by omega), show k + 1 - (j + 1) = k - j by omega]
theorem refturned_spec {n : Nat} {W : Nat → Nat} (g : Rowp.Good n W) (k : Nat) (hk : 150000 < k) :
    ∃ W', Rowp.Good n W' ∧ (∀ i, i < n → bitAt W' i = bitAt W (n - 1 - i)) ∧ vivariumref02_Turned.f k (n : Int) (rowOf (nw n) W) = some ((n : Int), rowOf (nw n) W', 0) := by
  have hle := g.le
  obtain ⟨k, rfl⟩ : ∃ q, k = q + 1 := ⟨k - 1, by omega⟩
  obtain ⟨W', g', hb, hr⟩ := row_spec (l := turnUpto n n W) (by rw [turnUpto_len]; omega) (k - n) (by omega)
  rw [turnUpto_len] at g' hb hr
  refine ⟨W', g', fun i hi => ?_, ?_⟩
  · rw [hb i hi, List.getD_eq_getElem?_getD]
    simp [turnUpto, hi]
  · unfold vivariumref02_Turned.f
    rw [refvalid_good g _ (by omega), Option.bind_some, if_pos rfl, refbits_spec n W hle _ (by omega), Option.bind_some, bitsOf_len, if_pos (by omega), Int.toNat_natCast, if_pos (by omega), ← turnUpto_zero n W,
      refturned_loop W hle 0 n k 0 0 rfl (by omega) (by omega), hr]
    rfl
theorem up_agree (n : Int) (X : List Int) (hu : U64 X) (inn : Bool) (k : Nat) (hk : 150000 < k) : ∃ m Y b e, words_Up.f k n X inn = some (m, Y, b, e) ∧ vivariumref02_Up.f k n X inn = some (m, Y, b, e) ∧ Y.length ≤ 2000000 := by
  rcases row_cases n X hu with ⟨m, W, rfl, rfl, g⟩ | ⟨h1, h2⟩
  · obtain ⟨V, gv, hv, ev⟩ := up_spec g inn k (by omega)
    obtain ⟨V', gv', hv', ev'⟩ := refup_spec g inn k (by omega)
    have e := row_eq gv gv' (fun i hi => (hv i hi).trans (hv' i hi).symm)
    exact ⟨_, _, _, _, ev, by rw [e]; exact ev', by rw [rowOf_len]; have := nw_le g.le; omega⟩
  · refine ⟨0, [], false, 20, ?_, ?_, by simp⟩
    · unfold words_Up.f
      rw [h1, Option.bind_some, if_neg (by decide)]
    · unfold vivariumref02_Up.f
      rw [h2 k (by omega), Option.bind_some, if_neg (by decide)]
theorem down_agree (n : Int) (X : List Int) (hu : U64 X) (inn : Bool) (k : Nat) (hk : 150000 < k) : ∃ m Y b e, words_Down.f k n X inn = some (m, Y, b, e) ∧ vivariumref02_Down.f k n X inn = some (m, Y, b, e) ∧ Y.length ≤ 2000000 := by
  rcases row_cases n X hu with ⟨m, W, rfl, rfl, g⟩ | ⟨h1, h2⟩
  · obtain ⟨V, gv, hv, ev⟩ := down_spec g inn k (by omega)
    obtain ⟨V', gv', hv', ev'⟩ := refdown_spec g inn k (by omega)
    have e := row_eq gv gv' (fun i hi => (hv i hi).trans (hv' i hi).symm)
    exact ⟨_, _, _, _, ev, by rw [e]; exact ev', by rw [rowOf_len]; have := nw_le g.le; omega⟩
  · refine ⟨0, [], false, 20, ?_, ?_, by simp⟩
    · unfold words_Down.f
      rw [h1, Option.bind_some, if_neg (by decide)]
    · unfold vivariumref02_Down.f
      rw [h2 k (by omega), Option.bind_some, if_neg (by decide)]
theorem turned_agree (n : Int) (X : List Int) (hu : U64 X) (k : Nat) (hk : 150000 < k) : ∃ m Y e, TurnTold n X m Y e ∧ vivariumref02_Turned.f k n X = some (m, Y, e) ∧ Y.length ≤ 2000000 := by
  rcases row_cases n X hu with ⟨m, W, rfl, rfl, g⟩ | ⟨h1, h2⟩
  · obtain ⟨V, gv, hv, ev⟩ := turned_calls g
    obtain ⟨V', gv', hv', ev'⟩ := refturned_spec g k (by omega)
    have e := row_eq gv gv' (fun i hi => (hv i hi).trans (hv' i hi).symm)
    exact ⟨_, _, _, ev.told, by rw [e]; exact ev', by rw [rowOf_len]; have := nw_le g.le; omega⟩
  · refine ⟨0, [], 20, turned_no n X h1, ?_, by simp⟩
    unfold vivariumref02_Turned.f
    rw [h2 k (by omega), Option.bind_some, if_neg (by decide)]
end Go.Proofs.YtlghmadoogblcaaDoor.RefPlain
end
section
namespace Go.Proofs.YtlghmadoogblcaaDoor.MovesWalk
open Go Go.RowKit Go.Proofs.YtlghmadoogblcaaDoorW.PrintWords Go.Proofs.YtlghmadoogblcaaDoorW.PrintLast Go.Proofs.YtlghmadoogblcaaDoorW.PrintMore Go.Proofs.YtlghmadoogblcaaDoor.PW Go.Proofs.YtlghmadoogblcaaDoor.PB Go.Proofs.YtlghmadoogblcaaDoor.Book Go.Proofs.YtlghmadoogblcaaDoor.Lent Go.Proofs.YtlghmadoogblcaaDoor.Pile Go.Proofs.YtlghmadoogblcaaDoor.TurnPlain
set_option linter.unusedVariables false
set_option linter.unusedSimpArgs false
set_option maxHeartbeats 8000000 in
set_option maxRecDepth 100000 in
theorem core (k : Nat) (n1 : Int) (inn : Bool) (Ar : Option Addr) (cr : Nat) (X1 X1z : List Int) (m11 m12 m13 m21 m22 m23 m31 m32 m33 e11 e12 e13 e21 e22 e23 e31 e32 e33 : Int) (b11 b12 b21 b22 b31 b32 : Bool) (Y11 Y12 Y13 Y21 Y22 Y23 Y31 Y32 Y33 : List Int) (w : World) (hT : Tz.Tab w)
    (hCr : Kd.C (Kd.int .u64) w Ar X1.length X1) (hlr : X1.length ≤ cr) (hmr : X1.length ≤ 17592186043904) (hk : 17592186043906 < k)
    (hal : vivariumlaw02_alive.f k = some true) (hxz1 : X1.map (fun v => Go.bits .xor .u64 v 6148914691236517205) = X1z)
    (a11 : words_Up.f k n1 X1 inn = some (m11, Y11, b11, e11)) (j11 : vivariumref02_Up.f k n1 X1 inn = some (m11, Y11, b11, e11)) (y11 : Y11.length ≤ 2000000) (a12 : words_Down.f k n1 X1 inn = some (m12, Y12, b12, e12)) (j12 : vivariumref02_Down.f k n1 X1 inn = some (m12, Y12, b12, e12)) (y12 : Y12.length ≤ 2000000) (a13 : TurnTold n1 X1 m13 Y13 e13) (j13 : vivariumref02_Turned.f k n1 X1 = some (m13, Y13, e13)) (y13 : Y13.length ≤ 2000000) (a21 : words_Up.f k n1 X1 (!inn) = some (m21, Y21, b21, e21)) (j21 : vivariumref02_Up.f k n1 X1 (!inn) = some (m21, Y21, b21, e21)) (y21 : Y21.length ≤ 2000000) (a22 : words_Down.f k n1 X1 (!inn) = some (m22, Y22, b22, e22)) (j22 : vivariumref02_Down.f k n1 X1 (!inn) = some (m22, Y22, b22, e22)) (y22 : Y22.length ≤ 2000000) (a23 : TurnTold n1 X1 m23 Y23 e23) (j23 : vivariumref02_Turned.f k n1 X1 = some (m23, Y23, e23)) (y23 : Y23.length ≤ 2000000) (a31 : words_Up.f k n1 X1z inn = some (m31, Y31, b31, e31)) (j31 : vivariumref02_Up.f k n1 X1z inn = some (m31, Y31, b31, e31)) (y31 : Y31.length ≤ 2000000) (a32 : words_Down.f k n1 X1z inn = some (m32, Y32, b32, e32)) (j32 : vivariumref02_Down.f k n1 X1z inn = some (m32, Y32, b32, e32)) (y32 : Y32.length ≤ 2000000) (a33 : TurnTold n1 X1z m33 Y33 e33) (j33 : vivariumref02_Turned.f k n1 X1z = some (m33, Y33, e33)) (y33 : Y33.length ≤ 2000000) :
    Calls Tryd.prog 4 #[.agg #[.int .i64 n1, .slice Ar X1.length cr], .bool inn] w fun e w' => e = .returned (.bool true) ∧ Below w.heap.size w w' := by
  have HT := Aside0.mk hT; have HCr := Aside0.mk hCr; have HLr := Aside0.mk hlr; have HMr := Aside0.mk hmr; have HK := Aside0.mk hk; have HA := Aside0.mk hal; have HXZ1 := Aside0.mk hxz1
  have HLZ1 := Aside0.mk (show X1z.length = X1.length by rw [← hxz1, List.length_map])
  have A11 := Aside0.mk a11; have J11 := Aside0.mk j11; have HY11 := Aside0.mk y11; have A12 := Aside0.mk a12; have J12 := Aside0.mk j12; have HY12 := Aside0.mk y12; have A13 := Aside0.mk a13; have J13 := Aside0.mk j13; have HY13 := Aside0.mk y13; have A21 := Aside0.mk a21; have J21 := Aside0.mk j21; have HY21 := Aside0.mk y21; have A22 := Aside0.mk a22; have J22 := Aside0.mk j22; have HY22 := Aside0.mk y22; have A23 := Aside0.mk a23; have J23 := Aside0.mk j23; have HY23 := Aside0.mk y23; have A31 := Aside0.mk a31; have J31 := Aside0.mk j31; have HY31 := Aside0.mk y31; have A32 := Aside0.mk a32; have J32 := Aside0.mk j32; have HY32 := Aside0.mk y32; have A33 := Aside0.mk a33; have J33 := Aside0.mk j33; have HY33 := Aside0.mk y33
  have P := Aside0.mk (Pile0.start w)
  have E0 := At.mk (n := 0)
  have hu := Tryd.underlying24
  clear hT hCr hlr hmr hk hal hxz1 a11 j11 y11 a12 j12 y12 a13 j13 y13 a21 j21 y21 a22 j22 y22 a23 j23 y23 a31 j31 y31 a32 j32 y32 a33 j33 y33
  go_enter Tryd.func4, Tryd.ntmps4
  go_wp2_with (first
    | (go_at_call 7; have E_ := E0; have P1 := (P.out.push [.int .i64 n1, .slice Ar X1.length cr] (w.heap.size) rfl); with_reducible refine (vivariumlaw02_alive.calls k true _ rfl HA.out).mono ?_; rintro er_ v1 ⟨rfl, hb⟩; have P2 := P1.on hb; clear hb; clear P P1 E0 E_; have P := Aside0.mk P2; clear P2; have E1 := At.mk (n := 1); have z_ := P.out.at_ (i := 0) rfl; have q_r := z_.1; have x_r0 := z_.2 0 _ rfl; have x_r1 := z_.2 1 _ rfl; clear z_)
    | (go_at_call 8; have E_ := E1; have P1 := P.out; with_reducible refine (Lent.lent n1 Ar cr X1 _ (Kd.C_below HCr.out P1.be) HLr.out HMr.out).mono ?_; rintro er_ v2 ⟨g0, d0, rfl, hl, hb⟩; have P2 := P1.lend hb hl; clear hb hl; clear q_r x_r0 x_r1; clear P P1 E1 E_; have P := Aside0.mk P2; clear P2; have E2 := At.mk (n := 2); have z_ := P.out.at_ (i := 0) rfl; have q_r := z_.1; have x_r0 := z_.2 0 _ rfl; have x_r1 := z_.2 1 _ rfl; clear z_)
    | (go_at_call 16; have E_ := E2; have P1 := (Pile.make (P.out.push [.int .i64 n1, .slice (some ⟨g0, 0, none⟩) X1.length d0] (v2.heap.size) rfl) (v2.heap.size + 1) (by simp)); with_reducible refine (MovesCall.moves k P1 rfl (by simp) HT.out n1 X1 inn (some ⟨g0, 0, none⟩) Ar d0 cr (fun _ _ _ _ _ _ _ h_ => h_.p0.C (j := 0) rfl) (fun _ _ _ _ _ _ _ h_ => Kd.C_below HCr.out h_.p0.be) (P1.p0.cap (j := 0) rfl) HLr.out m11 m12 m13 e11 e12 e13 b11 b12 Y11 Y12 Y13 HY11.out HY12.out HY13.out (by have := HK.out; omega) A11.out A12.out A13.out J11.out J12.out J13.out).mono ?_; rintro er_ v3 ⟨rfl, gv_, wv_, Z1, R1, hz1, hr1, P2⟩; have HZ1 := Aside0.mk hz1; have HR1 := Aside0.mk hr1; clear hz1 hr1; clear q_r x_r0 x_r1; clear P P1 E2 E_; have P := Aside0.mk P2; clear P2; have E3 := At.mk (n := 3); have z_ := P.out.p0.at_ (i := 0) rfl; have q_r := z_.1; have x_r0 := z_.2 0 _ rfl; have x_r1 := z_.2 1 _ rfl; clear z_; have z_ := P.out.p0.at_ (i := 1) rfl; have q_x := z_.1; have x_x0 := z_.2 0 _ rfl; have x_x1 := z_.2 1 _ rfl; clear z_)
    | (go_at_call 16; have E_ := E3; have P1 := P.out; with_reducible refine (MovesCall.moves k P1 (by simp [HZ1.out]) (by have := HZ1.out; simp at this; omega) HT.out n1 X1 (!inn) (some ⟨g0, 0, none⟩) Ar d0 cr (fun _ _ _ _ _ _ _ h_ => h_.p0.C (j := 0) rfl) (fun _ _ _ _ _ _ _ h_ => Kd.C_below HCr.out h_.p0.be) (P1.p0.cap (j := 0) rfl) HLr.out m21 m22 m23 e21 e22 e23 b21 b22 Y21 Y22 Y23 HY21.out HY22.out HY23.out (by have := HK.out; omega) A21.out A22.out A23.out J21.out J22.out J23.out).mono ?_; rintro er_ v4 ⟨rfl, gv_, wv_, Z2, R2, hz2, hr2, P2⟩; have HZ2 := Aside0.mk hz2; have HR2 := Aside0.mk hr2; clear hz2 hr2; clear q_r x_r0 x_r1; clear q_x x_x0 x_x1; clear P P1 E3 E_; have P := Aside0.mk P2; clear P2; have E4 := At.mk (n := 4); have z_ := P.out.p0.at_ (i := 0) rfl; have q_r := z_.1; have x_r0 := z_.2 0 _ rfl; have x_r1 := z_.2 1 _ rfl; clear z_; have z_ := P.out.p0.at_ (i := 1) rfl; have q_x := z_.1; have x_x0 := z_.2 0 _ rfl; have x_x1 := z_.2 1 _ rfl; clear z_)
    | (go_at_call 13; have E_ := E4; have P1 := P.out; with_reducible refine (Lent.kept k n1 g0 d0 Ar cr X1 w.heap.size _ (P1.p0.lent 0 _ rfl) (Kd.C_below HCr.out P1.p0.be) HLr.out HMr.out (same_self k _ _ (by have := HMr.out; omega) (by have := HMr.out; have := HK.out; omega))).mono ?_; rintro er_ v5 ⟨rfl, hb⟩; have P2 := P1.on hb; clear hb; clear q_r x_r0 x_r1; clear q_x x_x0 x_x1; clear P P1 E4 E_; have P := Aside0.mk P2; clear P2; have E5 := At.mk (n := 5); have z_ := P.out.p0.at_ (i := 0) rfl; have q_r := z_.1; have x_r0 := z_.2 0 _ rfl; have x_r1 := z_.2 1 _ rfl; clear z_; have z_ := P.out.p0.at_ (i := 1) rfl; have q_x := z_.1; have x_x0 := z_.2 0 _ rfl; have x_x1 := z_.2 1 _ rfl; clear z_)
    | (go_at_call 14; have E_ := E5; have P1 := P.out; with_reducible refine (Lent.wipe n1 g0 d0 X1 w.heap.size _ (P1.p0.lent 0 _ rfl) P1.p0.be.size HMr.out).mono ?_; rintro er_ v6 ⟨rfl, hl, hg⟩; rw [HXZ1.out] at hl; have P2 := P1.wiped (i := 0) rfl hg hl; clear hl hg; clear q_r x_r0 x_r1; clear q_x x_x0 x_x1; clear P P1 E5 E_; have P := Aside0.mk P2; clear P2; have E6 := At.mk (n := 6); have z_ := P.out.p0.at_ (i := 0) rfl; have q_r := z_.1; have x_r0 := z_.2 0 _ rfl; have x_r1 := z_.2 1 _ rfl; clear z_; have z_ := P.out.p0.at_ (i := 1) rfl; have q_x := z_.1; have x_x0 := z_.2 0 _ rfl; have x_x1 := z_.2 1 _ rfl; clear z_))
  refine start_ (n := 7) (S := fun w' => w'.cell? ⟨w.heap.size, 0, none⟩ = some (.int .i64 n1) ∧ w'.cell? ⟨w.heap.size, 1, none⟩ = some (.slice Ar X1.length cr) ∧ w'.cell? ⟨v2.heap.size, 0, none⟩ = some (.int .i64 n1) ∧ w'.cell? ⟨v2.heap.size, 1, none⟩ = some (.slice (some ⟨g0, 0, none⟩) X1.length d0)) (ds := []) #[false, false, false, false, false, false, false] (by kernel_rfl) rfl rfl ⟨x_r0, x_r1, x_x0, x_x1⟩ (fun hHeld => ?_)
  have P2 := P.out.on (below_drew (Below.refl v6.heap.size v6))
  clear P q_r x_r0 x_r1 q_x x_x0 x_x1
  have P := Aside0.mk P2
  clear P2
  generalize v6.drew = v7 at P hHeld ⊢
  refine pure_ (i := 0) (N := (some 34)) (v := ?_) (a' := ?_) #[true, false, false, false, false, false, false] rfl rfl (by kernel_rfl) (fun _ _ _ h => h) (Or.inl ⟨by rfl, ?_⟩) ?_ ?_
  rotate_left
  · intro w'
    go_simp
    with_reducible rfl
  rotate_left
  · simp only [Act.put, List.setIfInBounds_toArray, List.set_cons_zero, List.set_cons_succ, i64_w, i32_w]
    rfl
  refine take_ (i := 1) (N := (some 35)) (v := ?_) (a' := ?_) #[true, true, false, false, false, false, false] rfl rfl (by kernel_rfl) (fun _ _ _ h => h) (Or.inl ⟨by rfl, ?_⟩) hHeld ?_ ?_
  rotate_left
  · rintro w' ⟨s0, s1, s2, s3⟩
    go_simp
    with_reducible rfl
  rotate_left
  · simp only [Act.put, List.setIfInBounds_toArray, List.set_cons_zero, List.set_cons_succ, i64_w, i32_w]
    rfl
  refine take_ (i := 2) (N := (some 36)) (v := ?_) (a' := ?_) #[true, true, true, false, false, false, false] rfl rfl (by kernel_rfl) (fun _ _ _ h => h) (Or.inl ⟨by rfl, ?_⟩) hHeld ?_ ?_
  rotate_left
  · rintro w' ⟨s0, s1, s2, s3⟩
    go_simp
    with_reducible rfl
  rotate_left
  · simp only [Act.put, List.setIfInBounds_toArray, List.set_cons_zero, List.set_cons_succ, i64_w, i32_w]
    rfl
  refine pure_ (i := 4) (N := (some 38)) (v := ?_) (a' := ?_) #[true, true, true, false, true, false, false] rfl rfl (by kernel_rfl) (fun _ _ _ h => h) (Or.inl ⟨by rfl, ?_⟩) ?_ ?_
  rotate_left
  · intro w'
    go_simp
    with_reducible rfl
  rotate_left
  · simp only [Act.put, List.setIfInBounds_toArray, List.set_cons_zero, List.set_cons_succ, i64_w, i32_w]
    rfl
  refine one_ (i := 3) (N := (some 37)) #[true, true, true, true, true, false, false] rfl rfl (by kernel_rfl) (by decide) (fun K hK => ?_)
  have P1 := P.out
  refine goes_ Tryd.func8 (by kernel_rfl) rfl #[.agg #[.int .i64 n1, .slice (some ⟨g0, 0, none⟩) X1.length d0]] (by rfl) rfl rfl (by (try simp only [List.map_toArray, List.map_cons, List.map_nil]); first | done | rfl) ?_
  have h_ := Lent.lent n1 (some ⟨g0, 0, none⟩) d0 X1z _ (P1.p0.C (j := 0) rfl) (P1.p0.cap (j := 0) rfl) (by have := HMr.out; have := HLZ1.out; omega)
  rw [HLZ1.out] at h_
  with_reducible refine h_.mono ?_
  clear h_
  rintro er_ v8 ⟨g1, d1, rfl, hl, hb⟩
  refine ⟨_, rfl, ?_⟩
  have P2 := P1.lend hb hl
  clear hb hl
  refine hK.out _ _ ⟨(P2.p0.at_ (i := 0) rfl).2 0 _ rfl, (P2.p0.at_ (i := 0) rfl).2 1 _ rfl, (P2.p0.at_ (i := 1) rfl).2 0 _ rfl, (P2.p0.at_ (i := 1) rfl).2 1 _ rfl⟩ (fun hHeld => ?_)
  clear hK K
  clear P P1
  have P := Aside0.mk P2
  clear P2
  refine one_ (i := 5) (N := (some 39)) #[true, true, true, true, true, true, false] rfl rfl (by kernel_rfl) (by decide) (fun K hK => ?_)
  have P1 := P.out
  refine goes_ Tryd.func16 (by kernel_rfl) rfl #[.pointer (some ⟨v2.heap.size + 1, 0, none⟩), .agg #[.int .i64 n1, .slice (some ⟨g0, 0, none⟩) X1.length d0], .agg #[.int .i64 n1, .slice (some ⟨g1, 0, none⟩) X1.length d1], .bool inn] (by rfl) rfl rfl (by (try simp only [List.map_toArray, List.map_cons, List.map_nil]); first | done | rfl) ?_
  have h_ := MovesCall.moves k P1 (by simp [HZ1.out, HZ2.out]) (by have := HZ1.out; have := HZ2.out; simp at *; omega) HT.out n1 X1z inn (some ⟨g0, 0, none⟩) (some ⟨g1, 0, none⟩) d0 d1 (fun _ _ _ _ _ _ _ h_ => h_.p0.C (j := 0) rfl) (fun _ _ _ _ _ _ _ h_ => h_.p0.C (j := 1) rfl) (P1.p0.cap (j := 0) rfl) (P1.p0.cap (j := 1) rfl) m31 m32 m33 e31 e32 e33 b31 b32 Y31 Y32 Y33 HY31.out HY32.out HY33.out (by have := HK.out; omega) A31.out A32.out A33.out J31.out J32.out J33.out
  rw [HLZ1.out] at h_
  with_reducible refine h_.mono ?_
  clear h_
  rintro er_ v9 ⟨rfl, gv_, wv_, Z3, R3, hz3, hr3, P2⟩
  refine ⟨_, rfl, ?_⟩
  have HZ3 := Aside0.mk hz3
  have HR3 := Aside0.mk hr3
  clear hz3 hr3
  refine hK.out _ _ ⟨(P2.p0.at_ (i := 0) rfl).2 0 _ rfl, (P2.p0.at_ (i := 0) rfl).2 1 _ rfl, (P2.p0.at_ (i := 1) rfl).2 0 _ rfl, (P2.p0.at_ (i := 1) rfl).2 1 _ rfl⟩ (fun hHeld => ?_)
  clear hK K
  clear P P1
  have P := Aside0.mk P2
  clear P2
  refine pure_ (i := 6) (N := (some 11)) (v := ?_) (a' := ?_) #[true, true, true, true, true, true, true] rfl rfl (by kernel_rfl) (fun _ _ _ h => h) (Or.inl ⟨by rfl, ?_⟩) ?_ ?_
  rotate_left
  · intro w'
    go_simp
    with_reducible rfl
  rotate_left
  · simp only [Act.put, List.setIfInBounds_toArray, List.set_cons_zero, List.set_cons_succ, i64_w, i32_w]
    rfl
  refine done_ (by kernel_rfl) ?_
  have E9 := At.mk (n := 9)
  clear hHeld
  have z_ := P.out.p0.at_ (i := 0) rfl
  have q_r := z_.1
  have x_r0 := z_.2 0 _ rfl
  have x_r1 := z_.2 1 _ rfl
  clear z_
  have z_ := P.out.p0.at_ (i := 1) rfl
  have q_x := z_.1
  have x_x0 := z_.2 0 _ rfl
  have x_x1 := z_.2 1 _ rfl
  clear z_
  go_wp2_with (first
    | (go_at_call 17; have E_ := E9; have P1 := P.out; with_reducible refine (P1.stands k (by simp [HR1.out, HR2.out]) (by have := HZ1.out; have := HZ2.out; have := HZ3.out; simp at *; omega) (by have := HK.out; omega)).mono ?_; rintro er_ v10 ⟨rfl, hb⟩; clear q_r x_r0 x_r1; clear q_x x_x0 x_x1; clear P P1 E9 E_; have HF := Aside0.mk hb; clear hb))
  go_ret
  exact ⟨rfl, HF.out⟩
theorem law (n1 : Int) (inn : Bool) (Ar : Option Addr) (cr : Nat) (X1 : List Int) (w : World) (hT : Tz.Tab w) (hCr : Kd.C (Kd.int .u64) w Ar X1.length X1) (hlr : X1.length ≤ cr) (hmr : X1.length ≤ 17592186043904) (hu1 : RefPlain.U64 X1) :
    Calls Tryd.prog 4 #[.agg #[.int .i64 n1, .slice Ar X1.length cr], .bool inn] w fun e w' => e = .returned (.bool true) ∧ Below w.heap.size w w' := by
  obtain ⟨k, hk⟩ : ∃ k, k = 17592186043908 := ⟨_, rfl⟩
  have hz1 := RefPlain.u64_wiped X1
  obtain ⟨m11, Y11, b11, e11, a11, j11, y11⟩ := RefPlain.up_agree n1 X1 hu1 inn k (by omega)
  obtain ⟨m12, Y12, b12, e12, a12, j12, y12⟩ := RefPlain.down_agree n1 X1 hu1 inn k (by omega)
  obtain ⟨m13, Y13, e13, a13, j13, y13⟩ := RefPlain.turned_agree n1 X1 hu1 k (by omega)
  obtain ⟨m21, Y21, b21, e21, a21, j21, y21⟩ := RefPlain.up_agree n1 X1 hu1 (!inn) k (by omega)
  obtain ⟨m22, Y22, b22, e22, a22, j22, y22⟩ := RefPlain.down_agree n1 X1 hu1 (!inn) k (by omega)
  obtain ⟨m23, Y23, e23, a23, j23, y23⟩ := RefPlain.turned_agree n1 X1 hu1 k (by omega)
  obtain ⟨m31, Y31, b31, e31, a31, j31, y31⟩ := RefPlain.up_agree n1 _ hz1 inn k (by omega)
  obtain ⟨m32, Y32, b32, e32, a32, j32, y32⟩ := RefPlain.down_agree n1 _ hz1 inn k (by omega)
  obtain ⟨m33, Y33, e33, a33, j33, y33⟩ := RefPlain.turned_agree n1 _ hz1 k (by omega)
  exact core k n1 inn Ar cr X1 _ m11 m12 m13 m21 m22 m23 m31 m32 m33 e11 e12 e13 e21 e22 e23 e31 e32 e33 b11 b12 b21 b22 b31 b32 Y11 Y12 Y13 Y21 Y22 Y23 Y31 Y32 Y33 w hT hCr hlr hmr (by omega) (at_rounds (g := fun k => vivariumlaw02_alive.f k) (fun k => vivariumlaw02_alive.mono k) (by omega) Alive.alive_true) rfl a11 j11 y11 a12 j12 y12 a13 j13 y13 a21 j21 y21 a22 j22 y22 a23 j23 y23 a31 j31 y31 a32 j32 y32 a33 j33 y33
end Go.Proofs.YtlghmadoogblcaaDoor.MovesWalk
end
section
namespace Go.Proofs.YtlghmadoogblcaaDoor.OpenRow
open Go Go.RowKit Go.Proofs.YtlghmadoogblcaaDoorW.PrintWords Go.Proofs.YtlghmadoogblcaaDoor.RefPlain
set_option linter.unusedVariables false
theorem open_words {H : Type} {enc : TypeId × Value → H} {P : Program} {w : World} {base n : Nat} {spare : Nat → Bool} {held : Bool} {t e : TypeId} {v : Value} {x : DataW H × List MemPlace} (ht : P.underlying t = some (.slice e)) (he : P.underlying e = some (.int .u64)) (hc : P.cellsOf e = 1)
    (h : DataW.trod enc P w base spare held n t [v] = some x) : ∃ (A : Option Addr) (c : Nat) (zs : List Int), v = .slice A zs.length c ∧ zs.length ≤ c ∧ Kd.C (Kd.int .u64) w A zs.length zs ∧ U64 zs ∧ (zs.length = 0 ∨ ∃ elems rest, elems.length = zs.length ∧ x.1 = .slice elems rest) := by
  rcases Go.ChangeShapes.open_ints ht he hc h with ⟨h1, _⟩ | ⟨a, len, cap, zs, h1, _, hl, hm, hz, hx, hcell, hwf⟩
  · obtain rfl : v = .slice none 0 0 := by simpa using h1
    exact ⟨none, 0, [], rfl, Nat.le_refl _, Kd.C_nil _ _, fun v hv => by simp at hv, .inl rfl⟩
  · obtain rfl : v = .slice (some a) len cap := by simpa using h1
    have hzl : len ≤ zs.length := by rw [hz]; split <;> omega
    have hlen : (zs.take len).length = len := by simp; omega
    refine ⟨some a, cap, zs.take len, by rw [hlen], by rw [hlen]; exact hl, ⟨rfl, by rw [hlen]; simp [maxLen] at hm; omega, fun _ => ⟨a, rfl, fun j p hj => ⟨[.int .u64 p], rfl, rfl, fun i u hu => ?_⟩⟩⟩, fun q hq => ?_, .inr ⟨_, _, ?_, by rw [hx]⟩⟩
    · have hj' : j < len := by
        have := (List.getElem?_eq_some_iff.1 hj).1
        omega
      have hp : zs[j]? = some p := by rwa [List.getElem?_take_of_lt hj'] at hj
      match i, hu with
      | 0, hu =>
        obtain rfl : Value.int .u64 p = u := by simpa using hu
        have := hcell j (by omega)
        rw [List.getD_eq_getElem?_getD, hp] at this
        simpa [Kd.int, Kd.scalar] using this
      | i + 1, hu => simp at hu
    · have := hwf q (List.mem_of_mem_take hq)
      simp [Lit.wf, IntKind.min, IntKind.max, IntKind.bits, IntKind.signed] at this
      omega
    · simp [Go.ChangeShapes.lits]
theorem sized_words {H : Type} {P : Program} {ts : List TypeId} {ds : List (DataW H)} (h : (DataW.weightsEach P ts ds).all (· ≤ reachBytes) = true) {j t f0 f1 e : Nat} {fs : Array Field} {d0 : DataW H} {elems spare : List (DataW H)} (ht : ts[j]? = some t) (hd : ds[j]? = some (.agg [d0, .slice elems spare]))
    (hs : P.underlying t = some (.struct fs)) (hf : fs.toList.map (·.type) = [f0, f1]) (hu : P.underlying f1 = some (.slice e)) (hb : P.bytesOf e = 8) : elems.length ≤ 17592186043904 := by
  have := List.all_eq_true.1 h _ (DataW.weights_mem_each ht hd ((elems.length + spare.length) * P.bytesOf e) (by simp [DataW.weights, hs, hf, hu, DataW.weightsEach]))
  rw [hb] at this
  have h2 : (elems.length + spare.length) * 8 ≤ reachBytes := by simpa using this
  have h3 : reachBytes = 140737488351232 := rfl
  omega
end Go.Proofs.YtlghmadoogblcaaDoor.OpenRow
end
section
namespace Go.Proofs.YtlghmadoogblcaaDoor.wordsMoves
open Go.ChangeShapes Go.WideShapes Go.ChangeAt Go.RowKit Go.Joins Go.Deep
open Go.ChangeMaps (open_string shut_string)
set_option linter.unusedVariables false
theorem own : ownKnob Tryd.prog.godebug = none := by kernel_rfl
theorem laidOut : laidOutB Tryd.prog = true := by kernel_rfl
theorem open_agg_2 {H : Type} {enc : TypeId × Value → H} {P : Program} {w : World} {base : Nat} {spare : Nat → Bool} {held : Bool} {r : Reach} {b0 : Nat} {t : TypeId} {f0 f1 : Field} {v : Value} {d : DataW H} {p : List MemPlace} (hs : P.underlying t = some (.struct #[f0, f1])) (hone : oneCellFields P #[f0, f1] = true) (hC : P.cellsOf t = 2)
    (hv : Value.okWide P w r b0 t v) (h : DataW.Trod enc P w base spare held t v d p) :
    ∃ (v0 v1 : Value) (y0 y1 : DataW H × List MemPlace) (n : Nat), v = .agg #[v0, v1] ∧ d = .agg [y0.1, y1.1] ∧ DataW.trod enc P w base spare held n f0.type [v0] = some y0 ∧ DataW.trod enc P w base spare held n f1.type [v1] = some y1 := by
  obtain ⟨cs, rfl, hsz⟩ := okWide_struct hs hv
  obtain ⟨l⟩ := cs
  match l, hsz.trans hC with
  | [c0, c1], _ =>
    obtain ⟨fuel, hf⟩ := h
    obtain ⟨xs, n, _, hx, _, hlen, hg⟩ := DataW.trod_struct hs hf
    obtain ⟨o0, k0⟩ := hone_of hone 0 f0 rfl
    obtain ⟨o1, k1⟩ := hone_of hone 1 f1 rfl
    match xs, hlen with
    | [y0, y1], _ =>
      simp only [Prod.mk.injEq] at hx
      exact ⟨c0, c1, y0, y1, n, rfl, by simpa using hx.1, by simpa [Value.cells, o0, k0] using hg 0 f0 rfl, by simpa [Value.cells, o1, k1] using hg 1 f1 rfl⟩
theorem laidPlain {W : World} (h : laidMetH Tryd.prog Rows.wordsMovesRow.laid W) : laidMet Tryd.prog Rows.wordsMovesRow.laid W := by
  rw [MakeChecks.laidMetH_plain _ _ _ (by kernel_rfl)] at h; exact h
theorem ctz {W : World} (h : laidMetH Tryd.prog Rows.wordsMovesRow.laid W) : Lib.TabIs Tryd.prog W "math/bits.deBruijn64tab" .u8 Tz.tab :=
  Lib.tabIs_of_head (g := 0) (t := 74) (e := 5) (n := 64) (by kernel_rfl) (by kernel_rfl) Tryd.underlying74 Tryd.underlying5 (by kernel_rfl) (by kernel_rfl) (laidPlain h)
theorem door_met (os : Os) (args : Array Value) : laidMetH Tryd.prog Rows.wordsMovesRow.laid ((World.doorLaid Tryd.prog 24 os).forCall (fun _ _ => 0) ⟨#[], args, []⟩).memory :=
  laidMetH_of_parts3 (fuel := 8) (laidMet_of_run' 8 (by kernel_rfl) (by kernel_rfl)) (by kernel_rfl) (by kernel_rfl)
set_option maxRecDepth 100000 in
theorem lifted (os : Os) (started : os.Started) (H : Type) (enc : TypeId × Value → H) :
    ReturnsInHanded {} Tryd.checked os 4 .any (fun w args => (Rows.wordsMovesSpec.pre enc Tryd.prog Tryd.f4 [] false w args ∧ laidMetH Tryd.prog Rows.wordsMovesRow.laid w) ∧ sizedMet enc Tryd.prog Tryd.f4 (OpenSpec.ofChange Rows.wordsMovesSpec) false w args) (Rows.wordsMovesSpec.post enc Tryd.prog Tryd.f4 false true false false) := by
  refine returnsInHanded_of_change_and (C := Tryd.checked) (X := fun w _ => laidMetH Tryd.prog Rows.wordsMovesRow.laid w) (fun _ _ _ hh h => h.of_heap hh) own started (by kernel_rfl) Tryd.func4
    (ChangeSpec.witness_shaped (enc := enc) (C := Tryd.checked) (os := os) (X := fun w _ => laidMetH Tryd.prog Rows.wordsMovesRow.laid w) false (World.doorLaid Tryd.prog 24 os) #[.agg #[.int .i64 0, .slice none 0 0], .bool false] 8 rfl (World.shaped_of_RefB (by kernel_rfl) (by kernel_rfl)) (by kernel_rfl) (by kernel_rfl) (by kernel_rfl) (door_met os _)) ?_
  intro W base args ds gs before hval0 hW _ hsz0 hL _
  have hsz : (DataW.weightsEach Tryd.prog (Tryd.f4.params.toList ++ Rows.wordsMovesSpec.plain.varTypes Tryd.prog) (ds ++ gs)).all (· ≤ reachBytes) = true := hsz0
  have hval : ∀ (j : Nat) t v, Tryd.f4.params[j]? = some t → args[j]? = some v → Value.okWide Tryd.prog W .any base t v := hval0
  have hW' := hW
  obtain ⟨p, q, hA0, hV, rfl, hfz, hnd⟩ := hW
  have hA : DataW.TrodAll enc Tryd.prog W 0 (fun _ => true) true Tryd.f4.params.toList args.toList ds p := hA0
  rw [Tryd.params4] at hA hval hsz
  obtain ⟨v0, vs0, d0, ds0, p0, q0, hargs, rfl, rfl, h0, r0⟩ := trodAll_cons hA
  obtain ⟨v1, vs1, d1, ds1, p1, q1, rfl, rfl, rfl, h1, r1⟩ := trodAll_cons r0
  obtain ⟨rfl, rfl, rfl⟩ := trodAll_nil r1
  obtain rfl : args = #[v0, v1] := by cases args; simp_all
  obtain ⟨rfl, rfl⟩ := trodVars_none hV
  have k0 := h0
  have lt0 : ∀ x ∈ p0, x.block < W.heap.size := by obtain ⟨m, hm⟩ := k0; exact DataW.trod_lt m _ _ _ hm
  obtain ⟨c0_0, c0_1, x0_0, x0_1, m0, rfl, dd0, g0_0, g0_1⟩ := open_agg_2 Tryd.underlying24 (by kernel_rfl) (by kernel_rfl) (hval 0 24 v0 rfl rfl) h0
  obtain ⟨a0_0, e0_0, _, w0_0⟩ := DataW.trod_int Tryd.underlying3 g0_0
  obtain rfl : c0_0 = .int .i64 a0_0 := by simpa using e0_0
  have k1 := h1
  have lt1 : ∀ x ∈ p1, x.block < W.heap.size := by obtain ⟨m, hm⟩ := k1; exact DataW.trod_lt m _ _ _ hm
  obtain ⟨a1, rfl, rfl, rfl⟩ := open_bool Tryd.underlying4 (hval 1 4 v1 rfl rfl) h1
  clear hA0 hval0 hsz0
  have done : ∀ W', Below W.heap.size W W' → ∃ r, (Ending.returned (.bool true)) = .returned r ∧ Rows.wordsMovesSpec.post enc Tryd.prog Tryd.f4 false true false false W #[.agg #[.int .i64 a0_0, c0_1], .bool a1] r W' := fun W' bel =>
    ⟨_, rfl, _, _, _, [], _, [], hW', trodAll_mk1 (shut_bool Tryd.underlying4 _), (trodAll_cons_mk (Below.trod laidOut (by kernel_rfl) (of_decide_eq_true (by kernel_rfl)) k0 bel lt0) (trodAll_cons_mk (Below.trod laidOut (by kernel_rfl) (of_decide_eq_true (by kernel_rfl)) k1 bel lt1) trodAll_mk0)), rfl, bel.frame _, fun h => by cases h⟩
  obtain ⟨A0, u0, l0, rfl, hc0, hr0, hu0, hx0⟩ := OpenRow.open_words Tryd.underlying22 Tryd.underlying58 (by kernel_rfl) g0_1
  have hm0 : l0.length ≤ 17592186043904 := by
    rcases hx0 with h_ | ⟨el, sp, hel, hx⟩
    · omega
    · rw [← hel]; exact OpenRow.sized_words hsz (j := 0) (d0 := x0_0.1) (elems := el) (spare := sp) rfl (by subst dd0; exact congrArg (fun q => some (Go.DataW.agg [x0_0.1, q])) hx) Tryd.underlying24 rfl Tryd.underlying22 (by kernel_rfl)
  refine (MovesWalk.law a0_0 a1 A0 u0 l0 W (ctz hL) hr0 hc0 hm0 hu0).mono fun e W' ⟨he, bel⟩ => ?_
  subst he
  exact done W' bel
theorem said : Rows.WordsMovesSaid :=
  OpenClaim.holds_of_wide 4 Tryd.f4 rfl rfl rfl rfl rfl rfl rfl ⟨rfl, rfl, rfl, rfl, rfl⟩ rfl rfl rfl rfl rfl (by kernel_rfl) Tryd.func4 (by kernel_rfl)
    (of_decide_eq_true (by kernel_rfl)) (by unfold Func.isWrapper; first | (rw [if_pos (by decide +kernel)]; kernel_rfl) | (rw [if_neg (by decide +kernel)]; exact ⟨rfl, rfl⟩))
    (fun os started H enc _ => lifted os started H enc)
theorem plain (f : FuncId) (fn : Func) (hf : Tryd.pinned.checked.prog.funcNamed "vivarium/vivariumlaw02.WordsMoves" = some f) (hfn : Tryd.pinned.checked.prog.funcs[f]? = some fn) :
    false = Tryd.pinned.checked.prog.looks [] ∧ ∀ (j : Nat) t, fn.params[j]? = some t → Tryd.pinned.checked.prog.wantsStandIn t = false := by
  obtain rfl : f = 4 := Option.some.inj ((show Tryd.prog.funcNamed "vivarium/vivariumlaw02.WordsMoves" = some 4 by kernel_rfl).symm.trans hf) |>.symm
  obtain rfl : fn = Tryd.f4 := (Option.some.inj (Tryd.func4.symm.trans hfn)).symm
  refine ⟨by kernel_rfl, fun j t ht => ?_⟩
  rw [Tryd.params4] at ht
  have hm : t ∈ [24, 4] := by simpa using Array.mem_of_getElem? ht
  have hall : ([24, 4].all fun u => !Tryd.prog.wantsStandIn u) = true := by kernel_rfl
  exact (show Tryd.prog.wantsStandIn t = false by simpa using List.all_eq_true.1 hall t hm)
theorem card : Rows.WordsMovesCardSaid :=
  Claim7.holds_tied_plain_at .later [] _ _ _ _ said (fun _ h => by cases h) (by kernel_rfl) (fun _ h => by cases h) wordsMoves_row_tie rfl ⟨rfl, rfl⟩ (by kernel_rfl) rfl plain (by kernel_rfl)
end Go.Proofs.YtlghmadoogblcaaDoor.wordsMoves
namespace Go.Proofs.YtlghmadoogblcaaDoor
theorem wordsMoves_holds : Rows.WordsMovesCardSaid := wordsMoves.card
#print axioms wordsMoves_holds
end Go.Proofs.YtlghmadoogblcaaDoor
end
