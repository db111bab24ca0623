/- The reference's takes: a part of a text. -/
import Derived.Test.YtmcidodpnhkdfaaPFx1
import Derived.Test.YtmcidodpnhkdfaaParseSpec
namespace Go.Proofs.Ytmcidodpnhkdfaa.PF
open Go.RowKit Go.Proofs.YtmcidodpnhkdfaaW.PrintWords Go.Proofs.YtmcidodpnhkdfaaW.PrintLast Go.Proofs.YtmcidodpnhkdfaaW.PrintMore Go.Proofs.Ytmcidodpnhkdfaa.ParseSpec
set_option linter.unusedVariables false
set_option linter.unusedSimpArgs false
abbrev P6 (a b c d e f : Int) : Array Value := #[.int .i64 a, .int .i64 b, .int .i64 c, .int .i64 d, .int .i64 e, .int .i64 f]
theorem froz {W : World} {g t : Nat} {cs : Array Value} (h : W.heap[g]? = some (.cells cs t (0, 0))) : W.frozen? ⟨g, 0, none⟩ = false ∧ W.frozen? ⟨g, 1, none⟩ = false ∧ W.frozen? ⟨g, 2, none⟩ = false ∧ W.frozen? ⟨g, 3, none⟩ = false ∧ W.frozen? ⟨g, 4, none⟩ = false ∧ W.frozen? ⟨g, 5, none⟩ = false :=
  ⟨blk_frozen h 0, blk_frozen h 1, blk_frozen h 2, blk_frozen h 3, blk_frozen h 4, blk_frozen h 5⟩
theorem p6_cells {W : World} {g t : Nat} {a b c d e f : Int} (h : W.heap[g]? = some (.cells (P6 a b c d e f) t (0, 0))) :
    W.cell? ⟨g, 0, none⟩ = some (.int .i64 a) ∧ W.cell? ⟨g, 1, none⟩ = some (.int .i64 b) ∧ W.cell? ⟨g, 2, none⟩ = some (.int .i64 c) ∧ W.cell? ⟨g, 3, none⟩ = some (.int .i64 d) ∧ W.cell? ⟨g, 4, none⟩ = some (.int .i64 e) ∧ W.cell? ⟨g, 5, none⟩ = some (.int .i64 f) :=
  ⟨(blk_cell h 0).trans rfl, (blk_cell h 1).trans rfl, (blk_cell h 2).trans rfl, (blk_cell h 3).trans rfl, (blk_cell h 4).trans rfl, (blk_cell h 5).trans rfl⟩
/-- What is known: the result's block and the part's. -/
structure TF (w W : World) (g6 g9 : Nat) (a b c d e f : Int) : Prop where
  below : Below w.heap.size w W
  h6 : W.heap[g6]? = some (.cells (P6 0 0 0 0 0 0) 66 (0, 0))
  h9 : W.heap[g9]? = some (.cells (P6 a b c d e f) 66 (0, 0))
  G6 : w.heap.size ≤ g6
  G9 : w.heap.size ≤ g9
  N : g6 ≠ g9
section
variable {w W : World} {g6 g9 : Nat} {a b c d e f a' b' c' d' e' f' : Int}
theorem TF.drewN (h : TF w W g6 g9 a b c d e f) (n : Nat) : TF w (W.drewN n) g6 g9 a b c d e f := ⟨pw_below_drewN h.below n, blk_drewN h.h6 n, blk_drewN h.h9 n, h.G6, h.G9, h.N⟩
theorem TF.drew (h : TF w W g6 g9 a b c d e f) : TF w W.drew g6 g9 a b c d e f := ⟨below_drew1 h.below, blk_drew h.h6, blk_drew h.h9, h.G6, h.G9, h.N⟩
theorem TF.set (h : TF w W g6 g9 a b c d e f) (j : Nat) (v : Value) (hv : (P6 a b c d e f).setIfInBounds j v = P6 a' b' c' d' e' f') : TF w (W.setCell ⟨g9, j, none⟩ v) g6 g9 a' b' c' d' e' f' :=
  ⟨below_set h.below h.G9, blk_far h.h6 (p := ⟨g9, j, none⟩) h.N v, blk_put h.h9 j v hv, h.G6, h.G9, h.N⟩
theorem TF.done (h : TF w W g6 g9 a b c d e f) (a' b' c' d' e' f' : Int) :
    ((((((W.setCell ⟨g6, 0, none⟩ (.int .i64 a')).setCell ⟨g6, 1, none⟩ (.int .i64 b')).setCell ⟨g6, 2, none⟩ (.int .i64 c')).setCell ⟨g6, 3, none⟩ (.int .i64 d')).setCell ⟨g6, 4, none⟩ (.int .i64 e')).setCell ⟨g6, 5, none⟩ (.int .i64 f')).heap[g6]? = some (.cells (P6 a' b' c' d' e' f') 66 (0, 0)) ∧
    Below w.heap.size w ((((((W.setCell ⟨g6, 0, none⟩ (.int .i64 a')).setCell ⟨g6, 1, none⟩ (.int .i64 b')).setCell ⟨g6, 2, none⟩ (.int .i64 c')).setCell ⟨g6, 3, none⟩ (.int .i64 d')).setCell ⟨g6, 4, none⟩ (.int .i64 e')).setCell ⟨g6, 5, none⟩ (.int .i64 f')) :=
  ⟨blk_put (blk_put (blk_put (blk_put (blk_put (blk_put h.h6 0 _ rfl) 1 _ rfl) 2 _ rfl) 3 _ rfl) 4 _ rfl) 5 _ rfl, below_set (below_set (below_set (below_set (below_set (below_set h.below h.G6) h.G6) h.G6) h.G6) h.G6) h.G6⟩
theorem TF.done9 (h : TF w W g6 g9 a b c d e f) (x0 x1 x2 x3 x4 x5 : Value) {V : World} (hV : V = (((((W.setCell ⟨g6, 0, none⟩ x0).setCell ⟨g6, 1, none⟩ x1).setCell ⟨g6, 2, none⟩ x2).setCell ⟨g6, 3, none⟩ x3).setCell ⟨g6, 4, none⟩ x4).setCell ⟨g6, 5, none⟩ x5 := by rfl) :
    V.cell? ⟨g9, 0, none⟩ = some (.int .i64 a) ∧ V.cell? ⟨g9, 1, none⟩ = some (.int .i64 b) ∧ V.cell? ⟨g9, 2, none⟩ = some (.int .i64 c) ∧ V.cell? ⟨g9, 3, none⟩ = some (.int .i64 d) ∧ V.cell? ⟨g9, 4, none⟩ = some (.int .i64 e) ∧ V.cell? ⟨g9, 5, none⟩ = some (.int .i64 f) := by
  subst hV
  exact p6_cells (blk_far (blk_far (blk_far (blk_far (blk_far (blk_far h.h9 (p := ⟨g6, 0, none⟩) h.N.symm x0) (p := ⟨g6, 1, none⟩) h.N.symm x1) (p := ⟨g6, 2, none⟩) h.N.symm x2) (p := ⟨g6, 3, none⟩) h.N.symm x3) (p := ⟨g6, 4, none⟩) h.N.symm x4) (p := ⟨g6, 5, none⟩) h.N.symm x5)
end
theorem btN (s : ByteArray) (n : Nat) (i : Int) (hi : i.toNat = n) : ∀ h : n < s.size, ((s[n]'h).toNat : Int) = bt s i := by subst hi; exact bt_at s i
theorem digits_l (s : ByteArray) (hs : s.size ≤ 1048576) : ∀ (d k i : Nat), s.size - i ≤ d → d < k → i ≤ s.size → vivariumref04_digits.l0 k s (i : Int) = some (dg s i : Int) := by
  intro d
  induction d with
  | zero =>
    intro k i h1 h2 h3
    obtain ⟨k, rfl⟩ : ∃ m, k = m + 1 := ⟨k - 1, by omega⟩
    have hd : isd s i = false := by
      unfold isd
      rw [decide_eq_false (show ¬ i < s.size by omega)]; rfl
    rw [dg_no hd]
    simp only [vivariumref04_digits.l0]
    rw [if_neg (show ¬ (i : Int) < (s.size : Int) by omega)]
  | succ d ih =>
    intro k i h1 h2 h3
    obtain ⟨k, rfl⟩ : ∃ m, k = m + 1 := ⟨k - 1, by omega⟩
    simp only [vivariumref04_digits.l0]
    by_cases c : isd s i = true
    · have hlt := isd_lt c
      have c' := c
      unfold isd at c'
      simp only [Bool.and_eq_true, decide_eq_true_eq] at c'
      rw [if_pos (show (i : Int) < (s.size : Int) by omega), if_pos (show (0 : Int) ≤ (i : Int) by omega), if_pos (show bt s (i : Int) ≥ 48 from c'.2.1), if_pos c'.2.2, dg_yes c, show wrap64 ((i : Int) + 1) = ((i + 1 : Nat) : Int) by unfold wrap64; omega]
      exact ih k (i + 1) (by omega) (by omega) (by omega)
    · have c0 : isd s i = false := by simpa using c
      rw [dg_no c0]
      by_cases h4 : i < s.size
      · rw [if_pos (show (i : Int) < (s.size : Int) by omega), if_pos (show (0 : Int) ≤ (i : Int) by omega)]
        unfold isd at c0
        rw [decide_eq_true h4, Bool.true_and] at c0
        by_cases h5 : bt s (i : Int) ≥ 48
        · rw [decide_eq_true (show 48 ≤ bt s (i : Int) from h5), Bool.true_and] at c0
          rw [if_pos h5, if_neg (of_decide_eq_false c0)]
        · rw [if_neg h5]
      · rw [if_neg (show ¬ (i : Int) < (s.size : Int) by omega)]
theorem digits_f (s : ByteArray) (hs : s.size ≤ 1048576) (i : Nat) (hi : i ≤ s.size) : vivariumref04_digits.f (s.size + 1) s (i : Int) = some (dg s i : Int) := digits_l s hs s.size (s.size + 1) i (by omega) (by omega) hi

set_option maxHeartbeats 4000000 in
set_option maxRecDepth 100000 in
theorem tk_bad (s : ByteArray) (i : Nat) (hs : s.size ≤ 1048576) (hi : i ≤ s.size) (hd : dg s i = i) (w : World) :
    Calls Try.prog 38 #[.string s, .int .i64 (i : Int), .bool true] w fun en w' => en = .returned (.tuple #[.agg #[.int .i64 (i : Int), .int .i64 (i : Int), .int .i64 (-1), .int .i64 (-1), .int .i64 0, .int .i64 0], .int .i64 (i : Int), .int .i64 41]) ∧ Below w.heap.size w w' := by
  have hu := Try.underlying66
  have HB := Aside0.mk (Below.refl w.heap.size w)
  have D1 : Aside0 (vivariumref04_digits.f (s.size + 1) s (i : Int) = some (i : Int)) := ⟨by rw [digits_f s hs i hi, hd]⟩
  have b1 : (((i : Int)) == (i : Int)) = true := by simp
  (try clear hd); (try clear m2); (try clear m3); (try clear h5); (try clear hne); (try clear h6)
  go_enter Try.func38, Try.ntmps38
  go_wp2_with (first | ((with_reducible refine gate_dst (N := 6) rfl ?_); refine box_event ?hg (N := 6) ?hd (cs := #[.int .i64 0, .int .i64 0, .int .i64 0, .int .i64 0, .int .i64 0, .int .i64 0]) (t := 66) ?hr ?_; (case hd => rfl); (case hg => rfl); (case hr => first | (go_simp; done) | (go_simp; rfl)); intro g6 hg6 wg6 hbox hb; have G6 := Aside0.mk (Nat.le_of_eq hg6.symm); have H6 := Aside0.mk hbox; replace HB := Aside0.mk (below_step HB.out hb); clear hb hbox hg6) | ((with_reducible refine gate_dst (N := 9) rfl ?_); refine box_event ?hg (N := 9) ?hd (cs := #[.int .i64 0, .int .i64 0, .int .i64 0, .int .i64 0, .int .i64 0, .int .i64 0]) (t := 66) ?hr ?_; (case hd => rfl); (case hg => rfl); (case hr => first | (go_simp; done) | (go_simp; rfl)); intro g9 hg9 wg9 hbox hb; have G9 := Aside0.mk (show w.heap.size ≤ g9 by rw [hg9]; exact HB.out.size); have N69 := Aside0.mk (show g6 ≠ g9 by rw [hg9]; exact Nat.ne_of_lt (blk_lt H6.out)); have F : Aside0 (TF w wg9 g6 g9 0 0 0 0 0 0) := ⟨⟨below_step HB.out hb, blk_below H6.out hb, hbox, G6.out, G9.out, N69.out⟩⟩; clear hb hbox hg9 H6 HB; obtain ⟨tc0, tc1, tc2, tc3, tc4, tc5⟩ := p6_cells F.out.h9) | ((with_reducible refine gate_store (t := 66) (p := 9) (v := .tmp 11) rfl ?_); obtain ⟨r0, r1, r2, r3, r4, r5⟩ := froz F.out.h9; refine store_event (w1 := ?wwwa) ?hgwa rfl rfl ?hrwa ?_; (case hgwa => rfl); (case hrwa => go_simp; rfl); intro wa hw; clear r0 r1 r2 r3 r4 r5; (try clear tc0 tc1 tc2 tc3 tc4 tc5); have hF_ : TF w wa g6 g9 (i : Int) 0 (-1) (-1) 0 0 := (by rw [hw]; exact ((((((F.out.set 0 (.int .i64 (i : Int)) rfl).set 1 (.int .i64 0) rfl).set 2 (.int .i64 (-1)) rfl).set 3 (.int .i64 (-1)) rfl).set 4 (.int .i64 0) rfl).set 5 (.int .i64 0) rfl)); replace F := Aside0.mk hF_; clear hF_ hw; obtain ⟨tc0, tc1, tc2, tc3, tc4, tc5⟩ := p6_cells F.out.h9) | (go_at_call 41; (with_reducible refine (vivariumref04_digits.calls (s.size + 1) s (i : Int) (i : Int) _ D1.out).mono ?_); rintro en_ wb ⟨rfl, nd, rfl⟩; (try clear tc0 tc1 tc2 tc3 tc4 tc5); replace F := Aside0.mk (F.out.drewN nd); generalize World.drewN _ nd = wb at F ⊢; obtain ⟨tc0, tc1, tc2, tc3, tc4, tc5⟩ := p6_cells F.out.h9) | ((with_reducible refine gate_store (t := 3) (p := 15) (v := .tmp 14) rfl ?_); obtain ⟨r0, r1, r2, r3, r4, r5⟩ := froz F.out.h9; refine store_event (w1 := ?wwwc) ?hgwc rfl rfl ?hrwc ?_; (case hgwc => rfl); (case hrwc => go_simp; rfl); intro wc hw; clear r0 r1 r2 r3 r4 r5; (try clear tc0 tc1 tc2 tc3 tc4 tc5); have hF_ : TF w wc g6 g9 (i : Int) (i : Int) (-1) (-1) 0 0 := (by rw [hw]; exact (F.out.set 1 (.int .i64 (i : Int)) rfl)); replace F := Aside0.mk hF_; clear hF_ hw; obtain ⟨tc0, tc1, tc2, tc3, tc4, tc5⟩ := p6_cells F.out.h9) | ((with_reducible refine gate_store (t := 66) (p := 6) (v := .tmp 20) rfl ?_); obtain ⟨r0, r1, r2, r3, r4, r5⟩ := froz F.out.h6; obtain ⟨s0, s1, s2, s3, s4, s5⟩ := p6_cells F.out.h6; refine store_event (w1 := ?wwwz) ?hgwz rfl rfl ?hrwz ?_; (case hgwz => rfl); (case hrwz => go_simp; rfl); intro wz hw; clear r0 r1 r2 r3 r4 r5 s0 s1 s2 s3 s4 s5; (try clear tc0 tc1 tc2 tc3 tc4 tc5); have hD := F.out.done (i : Int) (i : Int) (-1) (-1) 0 0; rw [← hw] at hD; have FD := Aside0.mk hD; clear hD hw F))
  refine bodyPost_ret (results_ctt rfl _ _ g6 66 #[.int .i64 (i : Int), .int .i64 (i : Int), .int .i64 (-1), .int .i64 (-1), .int .i64 0, .int .i64 0] (0, 0) _ rfl FD.out.1 Try.underlying66 rfl (by kernel_rfl)) rfl ?_
  exact ⟨rfl, FD.out.2⟩
set_option maxHeartbeats 4000000 in
set_option maxRecDepth 100000 in
theorem tk_badF (s : ByteArray) (i : Nat) (hs : s.size ≤ 1048576) (hi : i ≤ s.size) (hd : dg s i = i) (w : World) :
    Calls Try.prog 38 #[.string s, .int .i64 (i : Int), .bool false] w fun en w' => en = .returned (.tuple #[.agg #[.int .i64 (i : Int), .int .i64 (i : Int), .int .i64 (-1), .int .i64 (-1), .int .i64 0, .int .i64 0], .int .i64 (i : Int), .int .i64 41]) ∧ Below w.heap.size w w' := by
  have hu := Try.underlying66
  have HB := Aside0.mk (Below.refl w.heap.size w)
  have D1 : Aside0 (vivariumref04_digits.f (s.size + 1) s (i : Int) = some (i : Int)) := ⟨by rw [digits_f s hs i hi, hd]⟩
  have b1 : (((i : Int)) == (i : Int)) = true := by simp
  (try clear hd); (try clear m2); (try clear m3); (try clear h5); (try clear hne); (try clear h6)
  go_enter Try.func38, Try.ntmps38
  go_wp2_with (first | ((with_reducible refine gate_dst (N := 6) rfl ?_); refine box_event ?hg (N := 6) ?hd (cs := #[.int .i64 0, .int .i64 0, .int .i64 0, .int .i64 0, .int .i64 0, .int .i64 0]) (t := 66) ?hr ?_; (case hd => rfl); (case hg => rfl); (case hr => first | (go_simp; done) | (go_simp; rfl)); intro g6 hg6 wg6 hbox hb; have G6 := Aside0.mk (Nat.le_of_eq hg6.symm); have H6 := Aside0.mk hbox; replace HB := Aside0.mk (below_step HB.out hb); clear hb hbox hg6) | ((with_reducible refine gate_dst (N := 9) rfl ?_); refine box_event ?hg (N := 9) ?hd (cs := #[.int .i64 0, .int .i64 0, .int .i64 0, .int .i64 0, .int .i64 0, .int .i64 0]) (t := 66) ?hr ?_; (case hd => rfl); (case hg => rfl); (case hr => first | (go_simp; done) | (go_simp; rfl)); intro g9 hg9 wg9 hbox hb; have G9 := Aside0.mk (show w.heap.size ≤ g9 by rw [hg9]; exact HB.out.size); have N69 := Aside0.mk (show g6 ≠ g9 by rw [hg9]; exact Nat.ne_of_lt (blk_lt H6.out)); have F : Aside0 (TF w wg9 g6 g9 0 0 0 0 0 0) := ⟨⟨below_step HB.out hb, blk_below H6.out hb, hbox, G6.out, G9.out, N69.out⟩⟩; clear hb hbox hg9 H6 HB; obtain ⟨tc0, tc1, tc2, tc3, tc4, tc5⟩ := p6_cells F.out.h9) | ((with_reducible refine gate_store (t := 66) (p := 9) (v := .tmp 11) rfl ?_); obtain ⟨r0, r1, r2, r3, r4, r5⟩ := froz F.out.h9; refine store_event (w1 := ?wwwa) ?hgwa rfl rfl ?hrwa ?_; (case hgwa => rfl); (case hrwa => go_simp; rfl); intro wa hw; clear r0 r1 r2 r3 r4 r5; (try clear tc0 tc1 tc2 tc3 tc4 tc5); have hF_ : TF w wa g6 g9 (i : Int) 0 (-1) (-1) 0 0 := (by rw [hw]; exact ((((((F.out.set 0 (.int .i64 (i : Int)) rfl).set 1 (.int .i64 0) rfl).set 2 (.int .i64 (-1)) rfl).set 3 (.int .i64 (-1)) rfl).set 4 (.int .i64 0) rfl).set 5 (.int .i64 0) rfl)); replace F := Aside0.mk hF_; clear hF_ hw; obtain ⟨tc0, tc1, tc2, tc3, tc4, tc5⟩ := p6_cells F.out.h9) | (go_at_call 41; (with_reducible refine (vivariumref04_digits.calls (s.size + 1) s (i : Int) (i : Int) _ D1.out).mono ?_); rintro en_ wb ⟨rfl, nd, rfl⟩; (try clear tc0 tc1 tc2 tc3 tc4 tc5); replace F := Aside0.mk (F.out.drewN nd); generalize World.drewN _ nd = wb at F ⊢; obtain ⟨tc0, tc1, tc2, tc3, tc4, tc5⟩ := p6_cells F.out.h9) | ((with_reducible refine gate_store (t := 3) (p := 15) (v := .tmp 14) rfl ?_); obtain ⟨r0, r1, r2, r3, r4, r5⟩ := froz F.out.h9; refine store_event (w1 := ?wwwc) ?hgwc rfl rfl ?hrwc ?_; (case hgwc => rfl); (case hrwc => go_simp; rfl); intro wc hw; clear r0 r1 r2 r3 r4 r5; (try clear tc0 tc1 tc2 tc3 tc4 tc5); have hF_ : TF w wc g6 g9 (i : Int) (i : Int) (-1) (-1) 0 0 := (by rw [hw]; exact (F.out.set 1 (.int .i64 (i : Int)) rfl)); replace F := Aside0.mk hF_; clear hF_ hw; obtain ⟨tc0, tc1, tc2, tc3, tc4, tc5⟩ := p6_cells F.out.h9) | ((with_reducible refine gate_store (t := 66) (p := 6) (v := .tmp 20) rfl ?_); obtain ⟨r0, r1, r2, r3, r4, r5⟩ := froz F.out.h6; obtain ⟨s0, s1, s2, s3, s4, s5⟩ := p6_cells F.out.h6; refine store_event (w1 := ?wwwz) ?hgwz rfl rfl ?hrwz ?_; (case hgwz => rfl); (case hrwz => go_simp; rfl); intro wz hw; clear r0 r1 r2 r3 r4 r5 s0 s1 s2 s3 s4 s5; (try clear tc0 tc1 tc2 tc3 tc4 tc5); have hD := F.out.done (i : Int) (i : Int) (-1) (-1) 0 0; rw [← hw] at hD; have FD := Aside0.mk hD; clear hD hw F))
  refine bodyPost_ret (results_ctt rfl _ _ g6 66 #[.int .i64 (i : Int), .int .i64 (i : Int), .int .i64 (-1), .int .i64 (-1), .int .i64 0, .int .i64 0] (0, 0) _ rfl FD.out.1 Try.underlying66 rfl (by kernel_rfl)) rfl ?_
  exact ⟨rfl, FD.out.2⟩
set_option maxHeartbeats 4000000 in
set_option maxRecDepth 100000 in
theorem tk_plain (s : ByteArray) (i : Nat) (e : Nat) (hs : s.size ≤ 1048576) (hi : i ≤ s.size) (hd : dg s i = e) (hne : e ≠ i) (w : World) :
    Calls Try.prog 38 #[.string s, .int .i64 (i : Int), .bool false] w fun en w' => en = .returned (.tuple #[.agg #[.int .i64 (i : Int), .int .i64 (e : Int), .int .i64 (-1), .int .i64 (-1), .int .i64 0, .int .i64 0], .int .i64 (e : Int), .int .i64 0]) ∧ Below w.heap.size w w' := by
  have hu := Try.underlying66
  have HB := Aside0.mk (Below.refl w.heap.size w)
  have D1 : Aside0 (vivariumref04_digits.f (s.size + 1) s (i : Int) = some (e : Int)) := ⟨by rw [digits_f s hs i hi, hd]⟩
  have b1 : ((e : Int) == (i : Int)) = false := by simp only [beq_eq_false_iff_ne, ne_eq]; omega
  (try clear hd); (try clear m2); (try clear m3); (try clear h5); (try clear hne); (try clear h6)
  go_enter Try.func38, Try.ntmps38
  go_wp2_with (first | ((with_reducible refine gate_dst (N := 6) rfl ?_); refine box_event ?hg (N := 6) ?hd (cs := #[.int .i64 0, .int .i64 0, .int .i64 0, .int .i64 0, .int .i64 0, .int .i64 0]) (t := 66) ?hr ?_; (case hd => rfl); (case hg => rfl); (case hr => first | (go_simp; done) | (go_simp; rfl)); intro g6 hg6 wg6 hbox hb; have G6 := Aside0.mk (Nat.le_of_eq hg6.symm); have H6 := Aside0.mk hbox; replace HB := Aside0.mk (below_step HB.out hb); clear hb hbox hg6) | ((with_reducible refine gate_dst (N := 9) rfl ?_); refine box_event ?hg (N := 9) ?hd (cs := #[.int .i64 0, .int .i64 0, .int .i64 0, .int .i64 0, .int .i64 0, .int .i64 0]) (t := 66) ?hr ?_; (case hd => rfl); (case hg => rfl); (case hr => first | (go_simp; done) | (go_simp; rfl)); intro g9 hg9 wg9 hbox hb; have G9 := Aside0.mk (show w.heap.size ≤ g9 by rw [hg9]; exact HB.out.size); have N69 := Aside0.mk (show g6 ≠ g9 by rw [hg9]; exact Nat.ne_of_lt (blk_lt H6.out)); have F : Aside0 (TF w wg9 g6 g9 0 0 0 0 0 0) := ⟨⟨below_step HB.out hb, blk_below H6.out hb, hbox, G6.out, G9.out, N69.out⟩⟩; clear hb hbox hg9 H6 HB; obtain ⟨tc0, tc1, tc2, tc3, tc4, tc5⟩ := p6_cells F.out.h9) | ((with_reducible refine gate_store (t := 66) (p := 9) (v := .tmp 11) rfl ?_); obtain ⟨r0, r1, r2, r3, r4, r5⟩ := froz F.out.h9; refine store_event (w1 := ?wwwa) ?hgwa rfl rfl ?hrwa ?_; (case hgwa => rfl); (case hrwa => go_simp; rfl); intro wa hw; clear r0 r1 r2 r3 r4 r5; (try clear tc0 tc1 tc2 tc3 tc4 tc5); have hF_ : TF w wa g6 g9 (i : Int) 0 (-1) (-1) 0 0 := (by rw [hw]; exact ((((((F.out.set 0 (.int .i64 (i : Int)) rfl).set 1 (.int .i64 0) rfl).set 2 (.int .i64 (-1)) rfl).set 3 (.int .i64 (-1)) rfl).set 4 (.int .i64 0) rfl).set 5 (.int .i64 0) rfl)); replace F := Aside0.mk hF_; clear hF_ hw; obtain ⟨tc0, tc1, tc2, tc3, tc4, tc5⟩ := p6_cells F.out.h9) | (go_at_call 41; (with_reducible refine (vivariumref04_digits.calls (s.size + 1) s (i : Int) (e : Int) _ D1.out).mono ?_); rintro en_ wb ⟨rfl, nd, rfl⟩; (try clear tc0 tc1 tc2 tc3 tc4 tc5); replace F := Aside0.mk (F.out.drewN nd); generalize World.drewN _ nd = wb at F ⊢; obtain ⟨tc0, tc1, tc2, tc3, tc4, tc5⟩ := p6_cells F.out.h9) | ((with_reducible refine gate_store (t := 3) (p := 15) (v := .tmp 14) rfl ?_); obtain ⟨r0, r1, r2, r3, r4, r5⟩ := froz F.out.h9; refine store_event (w1 := ?wwwc) ?hgwc rfl rfl ?hrwc ?_; (case hgwc => rfl); (case hrwc => go_simp; rfl); intro wc hw; clear r0 r1 r2 r3 r4 r5; (try clear tc0 tc1 tc2 tc3 tc4 tc5); have hF_ : TF w wc g6 g9 (i : Int) (e : Int) (-1) (-1) 0 0 := (by rw [hw]; exact (F.out.set 1 (.int .i64 (e : Int)) rfl)); replace F := Aside0.mk hF_; clear hF_ hw; obtain ⟨tc0, tc1, tc2, tc3, tc4, tc5⟩ := p6_cells F.out.h9) | ((with_reducible refine gate_store (t := 66) (p := 6) (v := .tmp 26) rfl ?_); obtain ⟨r0, r1, r2, r3, r4, r5⟩ := froz F.out.h6; obtain ⟨s0, s1, s2, s3, s4, s5⟩ := p6_cells F.out.h6; refine store_event (w1 := ?wwwz) ?hgwz rfl rfl ?hrwz ?_; (case hgwz => rfl); (case hrwz => go_simp; rfl); intro wz hw; clear r0 r1 r2 r3 r4 r5 s0 s1 s2 s3 s4 s5; (try clear tc0 tc1 tc2 tc3 tc4 tc5); have hD := F.out.done (i : Int) (e : Int) (-1) (-1) 0 0; rw [← hw] at hD; have FD := Aside0.mk hD; clear hD hw F))
  refine bodyPost_ret (results_ctt rfl _ _ g6 66 #[.int .i64 (i : Int), .int .i64 (e : Int), .int .i64 (-1), .int .i64 (-1), .int .i64 0, .int .i64 0] (0, 0) _ rfl FD.out.1 Try.underlying66 rfl (by kernel_rfl)) rfl ?_
  exact ⟨rfl, FD.out.2⟩
set_option maxHeartbeats 4000000 in
set_option maxRecDepth 100000 in
theorem tk_t00 (s : ByteArray) (i : Nat) (e : Nat) (hs : s.size ≤ 1048576) (hi : i ≤ s.size) (hd : dg s i = e) (hne : e ≠ i) (n2 : ¬ (e < s.size ∧ bt s (e : Int) = 42)) (n3 : ¬ (e < s.size ∧ (bt s (e : Int) = 43 ∨ bt s (e : Int) = 45))) (w : World) :
    Calls Try.prog 38 #[.string s, .int .i64 (i : Int), .bool true] w fun en w' => en = .returned (.tuple #[.agg #[.int .i64 (i : Int), .int .i64 (e : Int), .int .i64 (-1), .int .i64 (-1), .int .i64 0, .int .i64 0], .int .i64 (e : Int), .int .i64 0]) ∧ Below w.heap.size w w' := by
  have hu := Try.underlying66
  have HB := Aside0.mk (Below.refl w.heap.size w)
  have D1 : Aside0 (vivariumref04_digits.f (s.size + 1) s (i : Int) = some (e : Int)) := ⟨by rw [digits_f s hs i hi, hd]⟩
  have b1 : ((e : Int) == (i : Int)) = false := by simp only [beq_eq_false_iff_ne, ne_eq]; omega
  have hle : e ≤ s.size := by rw [← hd]; exact dg_le hi
  by_cases c_ : e < s.size
  · have b2 : decide ((e : Int) < (s.size : Int)) = true := decide_eq_true (by omega)
    have p2 : ((e : Int) < (s.size : Int)) = True := eq_true (by omega)
    have z2 : ((0 : Int) ≤ (e : Int)) = True := eq_true (by omega)
    have x2 : ∀ h : e < s.size, ((s[e]'h).toNat : Int) = bt s (e : Int) := bt_at s (e : Int)
    have y42 : (bt s (e : Int) == 42) = false := by simp only [beq_eq_false_iff_ne, ne_eq]; exact fun h_ => n2 ⟨c_, h_⟩
    have y43 : (bt s (e : Int) == 43) = false := by simp only [beq_eq_false_iff_ne, ne_eq]; exact fun h_ => n3 ⟨c_, .inl h_⟩
    have y45 : (bt s (e : Int) == 45) = false := by simp only [beq_eq_false_iff_ne, ne_eq]; exact fun h_ => n3 ⟨c_, .inr h_⟩
    (try clear hd); (try clear m2); (try clear m3); (try clear h5); (try clear hne); (try clear h6)
    go_enter Try.func38, Try.ntmps38
    go_wp2_with (first | ((with_reducible refine gate_dst (N := 6) rfl ?_); refine box_event ?hg (N := 6) ?hd (cs := #[.int .i64 0, .int .i64 0, .int .i64 0, .int .i64 0, .int .i64 0, .int .i64 0]) (t := 66) ?hr ?_; (case hd => rfl); (case hg => rfl); (case hr => first | (go_simp; done) | (go_simp; rfl)); intro g6 hg6 wg6 hbox hb; have G6 := Aside0.mk (Nat.le_of_eq hg6.symm); have H6 := Aside0.mk hbox; replace HB := Aside0.mk (below_step HB.out hb); clear hb hbox hg6) | ((with_reducible refine gate_dst (N := 9) rfl ?_); refine box_event ?hg (N := 9) ?hd (cs := #[.int .i64 0, .int .i64 0, .int .i64 0, .int .i64 0, .int .i64 0, .int .i64 0]) (t := 66) ?hr ?_; (case hd => rfl); (case hg => rfl); (case hr => first | (go_simp; done) | (go_simp; rfl)); intro g9 hg9 wg9 hbox hb; have G9 := Aside0.mk (show w.heap.size ≤ g9 by rw [hg9]; exact HB.out.size); have N69 := Aside0.mk (show g6 ≠ g9 by rw [hg9]; exact Nat.ne_of_lt (blk_lt H6.out)); have F : Aside0 (TF w wg9 g6 g9 0 0 0 0 0 0) := ⟨⟨below_step HB.out hb, blk_below H6.out hb, hbox, G6.out, G9.out, N69.out⟩⟩; clear hb hbox hg9 H6 HB; obtain ⟨tc0, tc1, tc2, tc3, tc4, tc5⟩ := p6_cells F.out.h9) | ((with_reducible refine gate_store (t := 66) (p := 9) (v := .tmp 11) rfl ?_); obtain ⟨r0, r1, r2, r3, r4, r5⟩ := froz F.out.h9; refine store_event (w1 := ?wwwa) ?hgwa rfl rfl ?hrwa ?_; (case hgwa => rfl); (case hrwa => go_simp; rfl); intro wa hw; clear r0 r1 r2 r3 r4 r5; (try clear tc0 tc1 tc2 tc3 tc4 tc5); have hF_ : TF w wa g6 g9 (i : Int) 0 (-1) (-1) 0 0 := (by rw [hw]; exact ((((((F.out.set 0 (.int .i64 (i : Int)) rfl).set 1 (.int .i64 0) rfl).set 2 (.int .i64 (-1)) rfl).set 3 (.int .i64 (-1)) rfl).set 4 (.int .i64 0) rfl).set 5 (.int .i64 0) rfl)); replace F := Aside0.mk hF_; clear hF_ hw; obtain ⟨tc0, tc1, tc2, tc3, tc4, tc5⟩ := p6_cells F.out.h9) | (go_at_call 41; (with_reducible refine (vivariumref04_digits.calls (s.size + 1) s (i : Int) (e : Int) _ D1.out).mono ?_); rintro en_ wb ⟨rfl, nd, rfl⟩; (try clear tc0 tc1 tc2 tc3 tc4 tc5); replace F := Aside0.mk (F.out.drewN nd); generalize World.drewN _ nd = wb at F ⊢; obtain ⟨tc0, tc1, tc2, tc3, tc4, tc5⟩ := p6_cells F.out.h9) | ((with_reducible refine gate_store (t := 3) (p := 15) (v := .tmp 14) rfl ?_); obtain ⟨r0, r1, r2, r3, r4, r5⟩ := froz F.out.h9; refine store_event (w1 := ?wwwc) ?hgwc rfl rfl ?hrwc ?_; (case hgwc => rfl); (case hrwc => go_simp; rfl); intro wc hw; clear r0 r1 r2 r3 r4 r5; (try clear tc0 tc1 tc2 tc3 tc4 tc5); have hF_ : TF w wc g6 g9 (i : Int) (e : Int) (-1) (-1) 0 0 := (by rw [hw]; exact (F.out.set 1 (.int .i64 (e : Int)) rfl)); replace F := Aside0.mk hF_; clear hF_ hw; obtain ⟨tc0, tc1, tc2, tc3, tc4, tc5⟩ := p6_cells F.out.h9) | ((with_reducible refine gate_store (t := 66) (p := 6) (v := .tmp 78) rfl ?_); obtain ⟨r0, r1, r2, r3, r4, r5⟩ := froz F.out.h6; obtain ⟨s0, s1, s2, s3, s4, s5⟩ := p6_cells F.out.h6; refine store_event (w1 := ?wwwz) ?hgwz rfl rfl ?hrwz ?_; (case hgwz => rfl); (case hrwz => go_simp; rfl); intro wz hw; clear r0 r1 r2 r3 r4 r5 s0 s1 s2 s3 s4 s5; (try clear tc0 tc1 tc2 tc3 tc4 tc5); have hD := F.out.done (i : Int) (e : Int) (-1) (-1) 0 0; rw [← hw] at hD; have FD := Aside0.mk hD; clear hD hw F))
    refine bodyPost_ret (results_ctt rfl _ _ g6 66 #[.int .i64 (i : Int), .int .i64 (e : Int), .int .i64 (-1), .int .i64 (-1), .int .i64 0, .int .i64 0] (0, 0) _ rfl FD.out.1 Try.underlying66 rfl (by kernel_rfl)) rfl ?_
    exact ⟨rfl, FD.out.2⟩
  · have b2 : decide ((e : Int) < (s.size : Int)) = false := decide_eq_false (by omega)
    have p2 : (s.size : Int) ≤ (e : Int) := by omega
    (try clear hd); (try clear m2); (try clear m3); (try clear h5); (try clear hne); (try clear h6)
    go_enter Try.func38, Try.ntmps38
    go_wp2_with (first | ((with_reducible refine gate_dst (N := 6) rfl ?_); refine box_event ?hg (N := 6) ?hd (cs := #[.int .i64 0, .int .i64 0, .int .i64 0, .int .i64 0, .int .i64 0, .int .i64 0]) (t := 66) ?hr ?_; (case hd => rfl); (case hg => rfl); (case hr => first | (go_simp; done) | (go_simp; rfl)); intro g6 hg6 wg6 hbox hb; have G6 := Aside0.mk (Nat.le_of_eq hg6.symm); have H6 := Aside0.mk hbox; replace HB := Aside0.mk (below_step HB.out hb); clear hb hbox hg6) | ((with_reducible refine gate_dst (N := 9) rfl ?_); refine box_event ?hg (N := 9) ?hd (cs := #[.int .i64 0, .int .i64 0, .int .i64 0, .int .i64 0, .int .i64 0, .int .i64 0]) (t := 66) ?hr ?_; (case hd => rfl); (case hg => rfl); (case hr => first | (go_simp; done) | (go_simp; rfl)); intro g9 hg9 wg9 hbox hb; have G9 := Aside0.mk (show w.heap.size ≤ g9 by rw [hg9]; exact HB.out.size); have N69 := Aside0.mk (show g6 ≠ g9 by rw [hg9]; exact Nat.ne_of_lt (blk_lt H6.out)); have F : Aside0 (TF w wg9 g6 g9 0 0 0 0 0 0) := ⟨⟨below_step HB.out hb, blk_below H6.out hb, hbox, G6.out, G9.out, N69.out⟩⟩; clear hb hbox hg9 H6 HB; obtain ⟨tc0, tc1, tc2, tc3, tc4, tc5⟩ := p6_cells F.out.h9) | ((with_reducible refine gate_store (t := 66) (p := 9) (v := .tmp 11) rfl ?_); obtain ⟨r0, r1, r2, r3, r4, r5⟩ := froz F.out.h9; refine store_event (w1 := ?b1wwwa) ?b1hgwa rfl rfl ?b1hrwa ?_; (case b1hgwa => rfl); (case b1hrwa => go_simp; rfl); intro wa hw; clear r0 r1 r2 r3 r4 r5; (try clear tc0 tc1 tc2 tc3 tc4 tc5); have hF_ : TF w wa g6 g9 (i : Int) 0 (-1) (-1) 0 0 := (by rw [hw]; exact ((((((F.out.set 0 (.int .i64 (i : Int)) rfl).set 1 (.int .i64 0) rfl).set 2 (.int .i64 (-1)) rfl).set 3 (.int .i64 (-1)) rfl).set 4 (.int .i64 0) rfl).set 5 (.int .i64 0) rfl)); replace F := Aside0.mk hF_; clear hF_ hw; obtain ⟨tc0, tc1, tc2, tc3, tc4, tc5⟩ := p6_cells F.out.h9) | (go_at_call 41; (with_reducible refine (vivariumref04_digits.calls (s.size + 1) s (i : Int) (e : Int) _ D1.out).mono ?_); rintro en_ wb ⟨rfl, nd, rfl⟩; (try clear tc0 tc1 tc2 tc3 tc4 tc5); replace F := Aside0.mk (F.out.drewN nd); generalize World.drewN _ nd = wb at F ⊢; obtain ⟨tc0, tc1, tc2, tc3, tc4, tc5⟩ := p6_cells F.out.h9) | ((with_reducible refine gate_store (t := 3) (p := 15) (v := .tmp 14) rfl ?_); obtain ⟨r0, r1, r2, r3, r4, r5⟩ := froz F.out.h9; refine store_event (w1 := ?b1wwwc) ?b1hgwc rfl rfl ?b1hrwc ?_; (case b1hgwc => rfl); (case b1hrwc => go_simp; rfl); intro wc hw; clear r0 r1 r2 r3 r4 r5; (try clear tc0 tc1 tc2 tc3 tc4 tc5); have hF_ : TF w wc g6 g9 (i : Int) (e : Int) (-1) (-1) 0 0 := (by rw [hw]; exact (F.out.set 1 (.int .i64 (e : Int)) rfl)); replace F := Aside0.mk hF_; clear hF_ hw; obtain ⟨tc0, tc1, tc2, tc3, tc4, tc5⟩ := p6_cells F.out.h9) | ((with_reducible refine gate_store (t := 66) (p := 6) (v := .tmp 78) rfl ?_); obtain ⟨r0, r1, r2, r3, r4, r5⟩ := froz F.out.h6; obtain ⟨s0, s1, s2, s3, s4, s5⟩ := p6_cells F.out.h6; refine store_event (w1 := ?b1wwwz) ?b1hgwz rfl rfl ?b1hrwz ?_; (case b1hgwz => rfl); (case b1hrwz => go_simp; rfl); intro wz hw; clear r0 r1 r2 r3 r4 r5 s0 s1 s2 s3 s4 s5; (try clear tc0 tc1 tc2 tc3 tc4 tc5); have hD := F.out.done (i : Int) (e : Int) (-1) (-1) 0 0; rw [← hw] at hD; have FD := Aside0.mk hD; clear hD hw F))
    refine bodyPost_ret (results_ctt rfl _ _ g6 66 #[.int .i64 (i : Int), .int .i64 (e : Int), .int .i64 (-1), .int .i64 (-1), .int .i64 0, .int .i64 0] (0, 0) _ rfl FD.out.1 Try.underlying66 rfl (by kernel_rfl)) rfl ?_
    exact ⟨rfl, FD.out.2⟩
set_option maxHeartbeats 4000000 in
set_option maxRecDepth 100000 in
theorem tk_t10 (s : ByteArray) (i : Nat) (e : Nat) (hs : s.size ≤ 1048576) (hi : i ≤ s.size) (hd : dg s i = e) (hne : e ≠ i) (n2 : e < s.size) (m2 : bt s (e : Int) = 42)  (n3 : ¬ ((e + 1) < s.size ∧ (bt s ((e : Int) + 1) = 43 ∨ bt s ((e : Int) + 1) = 45))) (w : World) :
    Calls Try.prog 38 #[.string s, .int .i64 (i : Int), .bool true] w fun en w' => en = .returned (.tuple #[.agg #[.int .i64 (i : Int), .int .i64 (e : Int), .int .i64 (e : Int), .int .i64 (-1), .int .i64 0, .int .i64 0], .int .i64 ((e : Int) + 1), .int .i64 0]) ∧ Below w.heap.size w w' := by
  have hu := Try.underlying66
  have HB := Aside0.mk (Below.refl w.heap.size w)
  have D1 : Aside0 (vivariumref04_digits.f (s.size + 1) s (i : Int) = some (e : Int)) := ⟨by rw [digits_f s hs i hi, hd]⟩
  have b1 : ((e : Int) == (i : Int)) = false := by simp only [beq_eq_false_iff_ne, ne_eq]; omega
  have hle : e ≤ s.size := by rw [← hd]; exact dg_le hi
  have b2 : decide ((e : Int) < (s.size : Int)) = true := decide_eq_true (by omega)
  have p2 : ((e : Int) < (s.size : Int)) = True := eq_true (by omega)
  have z2 : ((0 : Int) ≤ (e : Int)) = True := eq_true (by omega)
  have x2 : ∀ h : e < s.size, ((s[e]'h).toNat : Int) = bt s (e : Int) := bt_at s (e : Int)
  have y2 : (bt s (e : Int) == 42) = true := by rw [m2]; rfl
  by_cases c_ : e + 1 < s.size
  · have b3 : decide (((e : Int) + 1) < (s.size : Int)) = true := decide_eq_true (by omega)
    have p3 : (((e : Int) + 1) < (s.size : Int)) = True := eq_true (by omega)
    have z3 : ((0 : Int) ≤ ((e : Int) + 1)) = True := eq_true (by omega)
    have x3 : ∀ h : e + 1 < s.size, ((s[e + 1]'h).toNat : Int) = bt s ((e : Int) + 1) := btN s (e + 1) _ (by omega)
    have y43 : (bt s ((e : Int) + 1) == 43) = false := by simp only [beq_eq_false_iff_ne, ne_eq]; exact fun h_ => n3 ⟨c_, .inl h_⟩
    have y45 : (bt s ((e : Int) + 1) == 45) = false := by simp only [beq_eq_false_iff_ne, ne_eq]; exact fun h_ => n3 ⟨c_, .inr h_⟩
    (try clear hd); (try clear m2); (try clear m3); (try clear h5); (try clear hne); (try clear h6)
    go_enter Try.func38, Try.ntmps38
    go_wp2_with (first | ((with_reducible refine gate_dst (N := 6) rfl ?_); refine box_event ?hg (N := 6) ?hd (cs := #[.int .i64 0, .int .i64 0, .int .i64 0, .int .i64 0, .int .i64 0, .int .i64 0]) (t := 66) ?hr ?_; (case hd => rfl); (case hg => rfl); (case hr => first | (go_simp; done) | (go_simp; rfl)); intro g6 hg6 wg6 hbox hb; have G6 := Aside0.mk (Nat.le_of_eq hg6.symm); have H6 := Aside0.mk hbox; replace HB := Aside0.mk (below_step HB.out hb); clear hb hbox hg6) | ((with_reducible refine gate_dst (N := 9) rfl ?_); refine box_event ?hg (N := 9) ?hd (cs := #[.int .i64 0, .int .i64 0, .int .i64 0, .int .i64 0, .int .i64 0, .int .i64 0]) (t := 66) ?hr ?_; (case hd => rfl); (case hg => rfl); (case hr => first | (go_simp; done) | (go_simp; rfl)); intro g9 hg9 wg9 hbox hb; have G9 := Aside0.mk (show w.heap.size ≤ g9 by rw [hg9]; exact HB.out.size); have N69 := Aside0.mk (show g6 ≠ g9 by rw [hg9]; exact Nat.ne_of_lt (blk_lt H6.out)); have F : Aside0 (TF w wg9 g6 g9 0 0 0 0 0 0) := ⟨⟨below_step HB.out hb, blk_below H6.out hb, hbox, G6.out, G9.out, N69.out⟩⟩; clear hb hbox hg9 H6 HB; obtain ⟨tc0, tc1, tc2, tc3, tc4, tc5⟩ := p6_cells F.out.h9) | ((with_reducible refine gate_store (t := 66) (p := 9) (v := .tmp 11) rfl ?_); obtain ⟨r0, r1, r2, r3, r4, r5⟩ := froz F.out.h9; refine store_event (w1 := ?wwwa) ?hgwa rfl rfl ?hrwa ?_; (case hgwa => rfl); (case hrwa => go_simp; rfl); intro wa hw; clear r0 r1 r2 r3 r4 r5; (try clear tc0 tc1 tc2 tc3 tc4 tc5); have hF_ : TF w wa g6 g9 (i : Int) 0 (-1) (-1) 0 0 := (by rw [hw]; exact ((((((F.out.set 0 (.int .i64 (i : Int)) rfl).set 1 (.int .i64 0) rfl).set 2 (.int .i64 (-1)) rfl).set 3 (.int .i64 (-1)) rfl).set 4 (.int .i64 0) rfl).set 5 (.int .i64 0) rfl)); replace F := Aside0.mk hF_; clear hF_ hw; obtain ⟨tc0, tc1, tc2, tc3, tc4, tc5⟩ := p6_cells F.out.h9) | (go_at_call 41; (with_reducible refine (vivariumref04_digits.calls (s.size + 1) s (i : Int) (e : Int) _ D1.out).mono ?_); rintro en_ wb ⟨rfl, nd, rfl⟩; (try clear tc0 tc1 tc2 tc3 tc4 tc5); replace F := Aside0.mk (F.out.drewN nd); generalize World.drewN _ nd = wb at F ⊢; obtain ⟨tc0, tc1, tc2, tc3, tc4, tc5⟩ := p6_cells F.out.h9) | ((with_reducible refine gate_store (t := 3) (p := 15) (v := .tmp 14) rfl ?_); obtain ⟨r0, r1, r2, r3, r4, r5⟩ := froz F.out.h9; refine store_event (w1 := ?wwwc) ?hgwc rfl rfl ?hrwc ?_; (case hgwc => rfl); (case hrwc => go_simp; rfl); intro wc hw; clear r0 r1 r2 r3 r4 r5; (try clear tc0 tc1 tc2 tc3 tc4 tc5); have hF_ : TF w wc g6 g9 (i : Int) (e : Int) (-1) (-1) 0 0 := (by rw [hw]; exact (F.out.set 1 (.int .i64 (e : Int)) rfl)); replace F := Aside0.mk hF_; clear hF_ hw; obtain ⟨tc0, tc1, tc2, tc3, tc4, tc5⟩ := p6_cells F.out.h9) | ((with_reducible refine gate_store (t := 3) (p := 39) (v := .tmp 38) rfl ?_); obtain ⟨r0, r1, r2, r3, r4, r5⟩ := froz F.out.h9; refine store_event (w1 := ?wwwd) ?hgwd rfl rfl ?hrwd ?_; (case hgwd => rfl); (case hrwd => go_simp; rfl); intro wd hw; clear r0 r1 r2 r3 r4 r5; (try clear tc0 tc1 tc2 tc3 tc4 tc5); have hF_ : TF w wd g6 g9 (i : Int) (e : Int) (e : Int) (-1) 0 0 := (by rw [hw]; exact (F.out.set 2 (.int .i64 (e : Int)) rfl)); replace F := Aside0.mk hF_; clear hF_ hw; obtain ⟨tc0, tc1, tc2, tc3, tc4, tc5⟩ := p6_cells F.out.h9) | ((with_reducible refine gate_store (t := 66) (p := 6) (v := .tmp 78) rfl ?_); obtain ⟨r0, r1, r2, r3, r4, r5⟩ := froz F.out.h6; obtain ⟨s0, s1, s2, s3, s4, s5⟩ := p6_cells F.out.h6; refine store_event (w1 := ?wwwz) ?hgwz rfl rfl ?hrwz ?_; (case hgwz => rfl); (case hrwz => go_simp; rfl); intro wz hw; clear r0 r1 r2 r3 r4 r5 s0 s1 s2 s3 s4 s5; (try clear tc0 tc1 tc2 tc3 tc4 tc5); have hD := F.out.done (i : Int) (e : Int) (e : Int) (-1) 0 0; rw [← hw] at hD; have FD := Aside0.mk hD; clear hD hw F))
    refine bodyPost_ret (results_ctt rfl _ _ g6 66 #[.int .i64 (i : Int), .int .i64 (e : Int), .int .i64 (e : Int), .int .i64 (-1), .int .i64 0, .int .i64 0] (0, 0) _ rfl FD.out.1 Try.underlying66 rfl (by kernel_rfl)) rfl ?_
    exact ⟨rfl, FD.out.2⟩
  · have b3 : decide (((e : Int) + 1) < (s.size : Int)) = false := decide_eq_false (by omega)
    have p3 : (s.size : Int) ≤ ((e : Int) + 1) := by omega
    (try clear hd); (try clear m2); (try clear m3); (try clear h5); (try clear hne); (try clear h6)
    go_enter Try.func38, Try.ntmps38
    go_wp2_with (first | ((with_reducible refine gate_dst (N := 6) rfl ?_); refine box_event ?hg (N := 6) ?hd (cs := #[.int .i64 0, .int .i64 0, .int .i64 0, .int .i64 0, .int .i64 0, .int .i64 0]) (t := 66) ?hr ?_; (case hd => rfl); (case hg => rfl); (case hr => first | (go_simp; done) | (go_simp; rfl)); intro g6 hg6 wg6 hbox hb; have G6 := Aside0.mk (Nat.le_of_eq hg6.symm); have H6 := Aside0.mk hbox; replace HB := Aside0.mk (below_step HB.out hb); clear hb hbox hg6) | ((with_reducible refine gate_dst (N := 9) rfl ?_); refine box_event ?hg (N := 9) ?hd (cs := #[.int .i64 0, .int .i64 0, .int .i64 0, .int .i64 0, .int .i64 0, .int .i64 0]) (t := 66) ?hr ?_; (case hd => rfl); (case hg => rfl); (case hr => first | (go_simp; done) | (go_simp; rfl)); intro g9 hg9 wg9 hbox hb; have G9 := Aside0.mk (show w.heap.size ≤ g9 by rw [hg9]; exact HB.out.size); have N69 := Aside0.mk (show g6 ≠ g9 by rw [hg9]; exact Nat.ne_of_lt (blk_lt H6.out)); have F : Aside0 (TF w wg9 g6 g9 0 0 0 0 0 0) := ⟨⟨below_step HB.out hb, blk_below H6.out hb, hbox, G6.out, G9.out, N69.out⟩⟩; clear hb hbox hg9 H6 HB; obtain ⟨tc0, tc1, tc2, tc3, tc4, tc5⟩ := p6_cells F.out.h9) | ((with_reducible refine gate_store (t := 66) (p := 9) (v := .tmp 11) rfl ?_); obtain ⟨r0, r1, r2, r3, r4, r5⟩ := froz F.out.h9; refine store_event (w1 := ?b1wwwa) ?b1hgwa rfl rfl ?b1hrwa ?_; (case b1hgwa => rfl); (case b1hrwa => go_simp; rfl); intro wa hw; clear r0 r1 r2 r3 r4 r5; (try clear tc0 tc1 tc2 tc3 tc4 tc5); have hF_ : TF w wa g6 g9 (i : Int) 0 (-1) (-1) 0 0 := (by rw [hw]; exact ((((((F.out.set 0 (.int .i64 (i : Int)) rfl).set 1 (.int .i64 0) rfl).set 2 (.int .i64 (-1)) rfl).set 3 (.int .i64 (-1)) rfl).set 4 (.int .i64 0) rfl).set 5 (.int .i64 0) rfl)); replace F := Aside0.mk hF_; clear hF_ hw; obtain ⟨tc0, tc1, tc2, tc3, tc4, tc5⟩ := p6_cells F.out.h9) | (go_at_call 41; (with_reducible refine (vivariumref04_digits.calls (s.size + 1) s (i : Int) (e : Int) _ D1.out).mono ?_); rintro en_ wb ⟨rfl, nd, rfl⟩; (try clear tc0 tc1 tc2 tc3 tc4 tc5); replace F := Aside0.mk (F.out.drewN nd); generalize World.drewN _ nd = wb at F ⊢; obtain ⟨tc0, tc1, tc2, tc3, tc4, tc5⟩ := p6_cells F.out.h9) | ((with_reducible refine gate_store (t := 3) (p := 15) (v := .tmp 14) rfl ?_); obtain ⟨r0, r1, r2, r3, r4, r5⟩ := froz F.out.h9; refine store_event (w1 := ?b1wwwc) ?b1hgwc rfl rfl ?b1hrwc ?_; (case b1hgwc => rfl); (case b1hrwc => go_simp; rfl); intro wc hw; clear r0 r1 r2 r3 r4 r5; (try clear tc0 tc1 tc2 tc3 tc4 tc5); have hF_ : TF w wc g6 g9 (i : Int) (e : Int) (-1) (-1) 0 0 := (by rw [hw]; exact (F.out.set 1 (.int .i64 (e : Int)) rfl)); replace F := Aside0.mk hF_; clear hF_ hw; obtain ⟨tc0, tc1, tc2, tc3, tc4, tc5⟩ := p6_cells F.out.h9) | ((with_reducible refine gate_store (t := 3) (p := 39) (v := .tmp 38) rfl ?_); obtain ⟨r0, r1, r2, r3, r4, r5⟩ := froz F.out.h9; refine store_event (w1 := ?b1wwwd) ?b1hgwd rfl rfl ?b1hrwd ?_; (case b1hgwd => rfl); (case b1hrwd => go_simp; rfl); intro wd hw; clear r0 r1 r2 r3 r4 r5; (try clear tc0 tc1 tc2 tc3 tc4 tc5); have hF_ : TF w wd g6 g9 (i : Int) (e : Int) (e : Int) (-1) 0 0 := (by rw [hw]; exact (F.out.set 2 (.int .i64 (e : Int)) rfl)); replace F := Aside0.mk hF_; clear hF_ hw; obtain ⟨tc0, tc1, tc2, tc3, tc4, tc5⟩ := p6_cells F.out.h9) | ((with_reducible refine gate_store (t := 66) (p := 6) (v := .tmp 78) rfl ?_); obtain ⟨r0, r1, r2, r3, r4, r5⟩ := froz F.out.h6; obtain ⟨s0, s1, s2, s3, s4, s5⟩ := p6_cells F.out.h6; refine store_event (w1 := ?b1wwwz) ?b1hgwz rfl rfl ?b1hrwz ?_; (case b1hgwz => rfl); (case b1hrwz => go_simp; rfl); intro wz hw; clear r0 r1 r2 r3 r4 r5 s0 s1 s2 s3 s4 s5; (try clear tc0 tc1 tc2 tc3 tc4 tc5); have hD := F.out.done (i : Int) (e : Int) (e : Int) (-1) 0 0; rw [← hw] at hD; have FD := Aside0.mk hD; clear hD hw F))
    refine bodyPost_ret (results_ctt rfl _ _ g6 66 #[.int .i64 (i : Int), .int .i64 (e : Int), .int .i64 (e : Int), .int .i64 (-1), .int .i64 0, .int .i64 0] (0, 0) _ rfl FD.out.1 Try.underlying66 rfl (by kernel_rfl)) rfl ?_
    exact ⟨rfl, FD.out.2⟩
set_option maxHeartbeats 4000000 in
set_option maxRecDepth 100000 in
theorem tk_t0p (s : ByteArray) (i : Nat) (e : Nat) (hs : s.size ≤ 1048576) (hi : i ≤ s.size) (hd : dg s i = e) (hne : e ≠ i) (n2 : ¬ (e < s.size ∧ bt s (e : Int) = 42)) (n3 : e < s.size) (m3 : bt s (e : Int) = 43) (t : Nat) (h5 : dg s (e + 1) = t) (h6 : t ≠ (e + 1)) (w : World) :
    Calls Try.prog 38 #[.string s, .int .i64 (i : Int), .bool true] w fun en w' => en = .returned (.tuple #[.agg #[.int .i64 (i : Int), .int .i64 (e : Int), .int .i64 (-1), .int .i64 (e : Int), .int .i64 ((e : Int) + 1), .int .i64 (t : Int)], .int .i64 (t : Int), .int .i64 0]) ∧ Below w.heap.size w w' := by
  have hu := Try.underlying66
  have HB := Aside0.mk (Below.refl w.heap.size w)
  have D1 : Aside0 (vivariumref04_digits.f (s.size + 1) s (i : Int) = some (e : Int)) := ⟨by rw [digits_f s hs i hi, hd]⟩
  have b1 : ((e : Int) == (i : Int)) = false := by simp only [beq_eq_false_iff_ne, ne_eq]; omega
  have hle : e ≤ s.size := by rw [← hd]; exact dg_le hi
  have b3 : decide ((e : Int) < (s.size : Int)) = true := decide_eq_true (by omega)
  have p3 : ((e : Int) < (s.size : Int)) = True := eq_true (by omega)
  have z3 : ((0 : Int) ≤ (e : Int)) = True := eq_true (by omega)
  have x3 : ∀ h : e < s.size, ((s[e]'h).toNat : Int) = bt s (e : Int) := bt_at s (e : Int)
  have y3 : (bt s (e : Int) == 43) = true := by rw [m3]; rfl
  have y5 : (bt s (e : Int) == 42) = false := by rw [m3]; rfl
  have D2 : Aside0 (vivariumref04_digits.f (s.size + 1) s ((e : Int) + 1) = some (t : Int)) := ⟨by have h_ := digits_f s hs (e + 1) (by omega); rw [h5] at h_; exact h_⟩
  have b5 : ((t : Int) == ((e : Int) + 1)) = false := by simp only [beq_eq_false_iff_ne, ne_eq]; omega
  (try clear hd); (try clear m2); (try clear m3); (try clear h5); (try clear hne); (try clear h6)
  go_enter Try.func38, Try.ntmps38
  go_wp2_with (first | ((with_reducible refine gate_dst (N := 6) rfl ?_); refine box_event ?hg (N := 6) ?hd (cs := #[.int .i64 0, .int .i64 0, .int .i64 0, .int .i64 0, .int .i64 0, .int .i64 0]) (t := 66) ?hr ?_; (case hd => rfl); (case hg => rfl); (case hr => first | (go_simp; done) | (go_simp; rfl)); intro g6 hg6 wg6 hbox hb; have G6 := Aside0.mk (Nat.le_of_eq hg6.symm); have H6 := Aside0.mk hbox; replace HB := Aside0.mk (below_step HB.out hb); clear hb hbox hg6) | ((with_reducible refine gate_dst (N := 9) rfl ?_); refine box_event ?hg (N := 9) ?hd (cs := #[.int .i64 0, .int .i64 0, .int .i64 0, .int .i64 0, .int .i64 0, .int .i64 0]) (t := 66) ?hr ?_; (case hd => rfl); (case hg => rfl); (case hr => first | (go_simp; done) | (go_simp; rfl)); intro g9 hg9 wg9 hbox hb; have G9 := Aside0.mk (show w.heap.size ≤ g9 by rw [hg9]; exact HB.out.size); have N69 := Aside0.mk (show g6 ≠ g9 by rw [hg9]; exact Nat.ne_of_lt (blk_lt H6.out)); have F : Aside0 (TF w wg9 g6 g9 0 0 0 0 0 0) := ⟨⟨below_step HB.out hb, blk_below H6.out hb, hbox, G6.out, G9.out, N69.out⟩⟩; clear hb hbox hg9 H6 HB; obtain ⟨tc0, tc1, tc2, tc3, tc4, tc5⟩ := p6_cells F.out.h9) | ((with_reducible refine gate_store (t := 66) (p := 9) (v := .tmp 11) rfl ?_); obtain ⟨r0, r1, r2, r3, r4, r5⟩ := froz F.out.h9; refine store_event (w1 := ?wwwa) ?hgwa rfl rfl ?hrwa ?_; (case hgwa => rfl); (case hrwa => go_simp; rfl); intro wa hw; clear r0 r1 r2 r3 r4 r5; (try clear tc0 tc1 tc2 tc3 tc4 tc5); have hF_ : TF w wa g6 g9 (i : Int) 0 (-1) (-1) 0 0 := (by rw [hw]; exact ((((((F.out.set 0 (.int .i64 (i : Int)) rfl).set 1 (.int .i64 0) rfl).set 2 (.int .i64 (-1)) rfl).set 3 (.int .i64 (-1)) rfl).set 4 (.int .i64 0) rfl).set 5 (.int .i64 0) rfl)); replace F := Aside0.mk hF_; clear hF_ hw; obtain ⟨tc0, tc1, tc2, tc3, tc4, tc5⟩ := p6_cells F.out.h9) | (go_at_call 41; (with_reducible refine (vivariumref04_digits.calls (s.size + 1) s (i : Int) (e : Int) _ D1.out).mono ?_); rintro en_ wb ⟨rfl, nd, rfl⟩; (try clear tc0 tc1 tc2 tc3 tc4 tc5); replace F := Aside0.mk (F.out.drewN nd); generalize World.drewN _ nd = wb at F ⊢; obtain ⟨tc0, tc1, tc2, tc3, tc4, tc5⟩ := p6_cells F.out.h9) | ((with_reducible refine gate_store (t := 3) (p := 15) (v := .tmp 14) rfl ?_); obtain ⟨r0, r1, r2, r3, r4, r5⟩ := froz F.out.h9; refine store_event (w1 := ?wwwc) ?hgwc rfl rfl ?hrwc ?_; (case hgwc => rfl); (case hrwc => go_simp; rfl); intro wc hw; clear r0 r1 r2 r3 r4 r5; (try clear tc0 tc1 tc2 tc3 tc4 tc5); have hF_ : TF w wc g6 g9 (i : Int) (e : Int) (-1) (-1) 0 0 := (by rw [hw]; exact (F.out.set 1 (.int .i64 (e : Int)) rfl)); replace F := Aside0.mk hF_; clear hF_ hw; obtain ⟨tc0, tc1, tc2, tc3, tc4, tc5⟩ := p6_cells F.out.h9) | ((with_reducible refine gate_store (t := 3) (p := 59) (v := .tmp 58) rfl ?_); obtain ⟨r0, r1, r2, r3, r4, r5⟩ := froz F.out.h9; refine store_event (w1 := ?wwwe) ?hgwe rfl rfl ?hrwe ?_; (case hgwe => rfl); (case hrwe => go_simp; rfl); intro we hw; clear r0 r1 r2 r3 r4 r5; (try clear tc0 tc1 tc2 tc3 tc4 tc5); have hF_ : TF w we g6 g9 (i : Int) (e : Int) (-1) (e : Int) 0 0 := (by rw [hw]; exact (F.out.set 3 (.int .i64 (e : Int)) rfl)); replace F := Aside0.mk hF_; clear hF_ hw; obtain ⟨tc0, tc1, tc2, tc3, tc4, tc5⟩ := p6_cells F.out.h9) | ((with_reducible refine gate_store (t := 3) (p := 62) (v := .tmp 61) rfl ?_); obtain ⟨r0, r1, r2, r3, r4, r5⟩ := froz F.out.h9; refine store_event (w1 := ?wwwf) ?hgwf rfl rfl ?hrwf ?_; (case hgwf => rfl); (case hrwf => go_simp; rfl); intro wf hw; clear r0 r1 r2 r3 r4 r5; (try clear tc0 tc1 tc2 tc3 tc4 tc5); have hF_ : TF w wf g6 g9 (i : Int) (e : Int) (-1) (e : Int) ((e : Int) + 1) 0 := (by rw [hw]; exact (F.out.set 4 (.int .i64 ((e : Int) + 1)) rfl)); replace F := Aside0.mk hF_; clear hF_ hw; obtain ⟨tc0, tc1, tc2, tc3, tc4, tc5⟩ := p6_cells F.out.h9) | (go_at_call 41; (with_reducible refine (vivariumref04_digits.calls (s.size + 1) s ((e : Int) + 1) (t : Int) _ D2.out).mono ?_); rintro en_ wg ⟨rfl, nd, rfl⟩; (try clear tc0 tc1 tc2 tc3 tc4 tc5); replace F := Aside0.mk (F.out.drewN nd); generalize World.drewN _ nd = wg at F ⊢; obtain ⟨tc0, tc1, tc2, tc3, tc4, tc5⟩ := p6_cells F.out.h9) | ((with_reducible refine gate_store (t := 3) (p := 67) (v := .tmp 66) rfl ?_); obtain ⟨r0, r1, r2, r3, r4, r5⟩ := froz F.out.h9; refine store_event (w1 := ?wwwh) ?hgwh rfl rfl ?hrwh ?_; (case hgwh => rfl); (case hrwh => go_simp; rfl); intro wh hw; clear r0 r1 r2 r3 r4 r5; (try clear tc0 tc1 tc2 tc3 tc4 tc5); have hF_ : TF w wh g6 g9 (i : Int) (e : Int) (-1) (e : Int) ((e : Int) + 1) (t : Int) := (by rw [hw]; exact (F.out.set 5 (.int .i64 (t : Int)) rfl)); replace F := Aside0.mk hF_; clear hF_ hw; obtain ⟨tc0, tc1, tc2, tc3, tc4, tc5⟩ := p6_cells F.out.h9) | ((with_reducible refine gate_store (t := 66) (p := 6) (v := .tmp 78) rfl ?_); obtain ⟨r0, r1, r2, r3, r4, r5⟩ := froz F.out.h6; obtain ⟨s0, s1, s2, s3, s4, s5⟩ := p6_cells F.out.h6; refine store_event (w1 := ?wwwz) ?hgwz rfl rfl ?hrwz ?_; (case hgwz => rfl); (case hrwz => go_simp; rfl); intro wz hw; clear r0 r1 r2 r3 r4 r5 s0 s1 s2 s3 s4 s5; (try clear tc0 tc1 tc2 tc3 tc4 tc5); have hD := F.out.done (i : Int) (e : Int) (-1) (e : Int) ((e : Int) + 1) (t : Int); rw [← hw] at hD; have FD := Aside0.mk hD; clear hD hw F))
  refine bodyPost_ret (results_ctt rfl _ _ g6 66 #[.int .i64 (i : Int), .int .i64 (e : Int), .int .i64 (-1), .int .i64 (e : Int), .int .i64 ((e : Int) + 1), .int .i64 (t : Int)] (0, 0) _ rfl FD.out.1 Try.underlying66 rfl (by kernel_rfl)) rfl ?_
  exact ⟨rfl, FD.out.2⟩
set_option maxHeartbeats 4000000 in
set_option maxRecDepth 100000 in
theorem tk_f0p (s : ByteArray) (i : Nat) (e : Nat) (hs : s.size ≤ 1048576) (hi : i ≤ s.size) (hd : dg s i = e) (hne : e ≠ i) (n2 : ¬ (e < s.size ∧ bt s (e : Int) = 42)) (n3 : e < s.size) (m3 : bt s (e : Int) = 43) (h5 : dg s (e + 1) = (e + 1)) (w : World) :
    Calls Try.prog 38 #[.string s, .int .i64 (i : Int), .bool true] w fun en w' => en = .returned (.tuple #[.agg #[.int .i64 (i : Int), .int .i64 (e : Int), .int .i64 (-1), .int .i64 (e : Int), .int .i64 ((e : Int) + 1), .int .i64 ((e : Int) + 1)], .int .i64 ((e : Int) + 1), .int .i64 43]) ∧ Below w.heap.size w w' := by
  have hu := Try.underlying66
  have HB := Aside0.mk (Below.refl w.heap.size w)
  have D1 : Aside0 (vivariumref04_digits.f (s.size + 1) s (i : Int) = some (e : Int)) := ⟨by rw [digits_f s hs i hi, hd]⟩
  have b1 : ((e : Int) == (i : Int)) = false := by simp only [beq_eq_false_iff_ne, ne_eq]; omega
  have hle : e ≤ s.size := by rw [← hd]; exact dg_le hi
  have b3 : decide ((e : Int) < (s.size : Int)) = true := decide_eq_true (by omega)
  have p3 : ((e : Int) < (s.size : Int)) = True := eq_true (by omega)
  have z3 : ((0 : Int) ≤ (e : Int)) = True := eq_true (by omega)
  have x3 : ∀ h : e < s.size, ((s[e]'h).toNat : Int) = bt s (e : Int) := bt_at s (e : Int)
  have y3 : (bt s (e : Int) == 43) = true := by rw [m3]; rfl
  have y5 : (bt s (e : Int) == 42) = false := by rw [m3]; rfl
  have D2 : Aside0 (vivariumref04_digits.f (s.size + 1) s ((e : Int) + 1) = some ((e : Int) + 1)) := ⟨by have h_ := digits_f s hs (e + 1) (by omega); rw [h5] at h_; exact h_⟩
  have b5 : (((e : Int) + 1) == ((e : Int) + 1)) = true := by simp
  (try clear hd); (try clear m2); (try clear m3); (try clear h5); (try clear hne); (try clear h6)
  go_enter Try.func38, Try.ntmps38
  go_upto_region 16 with (first | ((with_reducible refine gate_dst (N := 6) rfl ?_); refine box_event ?hg (N := 6) ?hd (cs := #[.int .i64 0, .int .i64 0, .int .i64 0, .int .i64 0, .int .i64 0, .int .i64 0]) (t := 66) ?hr ?_; (case hd => rfl); (case hg => rfl); (case hr => first | (go_simp; done) | (go_simp; rfl)); intro g6 hg6 wg6 hbox hb; have G6 := Aside0.mk (Nat.le_of_eq hg6.symm); have H6 := Aside0.mk hbox; replace HB := Aside0.mk (below_step HB.out hb); clear hb hbox hg6) | ((with_reducible refine gate_dst (N := 9) rfl ?_); refine box_event ?hg (N := 9) ?hd (cs := #[.int .i64 0, .int .i64 0, .int .i64 0, .int .i64 0, .int .i64 0, .int .i64 0]) (t := 66) ?hr ?_; (case hd => rfl); (case hg => rfl); (case hr => first | (go_simp; done) | (go_simp; rfl)); intro g9 hg9 wg9 hbox hb; have G9 := Aside0.mk (show w.heap.size ≤ g9 by rw [hg9]; exact HB.out.size); have N69 := Aside0.mk (show g6 ≠ g9 by rw [hg9]; exact Nat.ne_of_lt (blk_lt H6.out)); have F : Aside0 (TF w wg9 g6 g9 0 0 0 0 0 0) := ⟨⟨below_step HB.out hb, blk_below H6.out hb, hbox, G6.out, G9.out, N69.out⟩⟩; clear hb hbox hg9 H6 HB; obtain ⟨tc0, tc1, tc2, tc3, tc4, tc5⟩ := p6_cells F.out.h9) | ((with_reducible refine gate_store (t := 66) (p := 9) (v := .tmp 11) rfl ?_); obtain ⟨r0, r1, r2, r3, r4, r5⟩ := froz F.out.h9; refine store_event (w1 := ?wwwa) ?hgwa rfl rfl ?hrwa ?_; (case hgwa => rfl); (case hrwa => go_simp; rfl); intro wa hw; clear r0 r1 r2 r3 r4 r5; (try clear tc0 tc1 tc2 tc3 tc4 tc5); have hF_ : TF w wa g6 g9 (i : Int) 0 (-1) (-1) 0 0 := (by rw [hw]; exact ((((((F.out.set 0 (.int .i64 (i : Int)) rfl).set 1 (.int .i64 0) rfl).set 2 (.int .i64 (-1)) rfl).set 3 (.int .i64 (-1)) rfl).set 4 (.int .i64 0) rfl).set 5 (.int .i64 0) rfl)); replace F := Aside0.mk hF_; clear hF_ hw; obtain ⟨tc0, tc1, tc2, tc3, tc4, tc5⟩ := p6_cells F.out.h9) | (go_at_call 41; (with_reducible refine (vivariumref04_digits.calls (s.size + 1) s (i : Int) (e : Int) _ D1.out).mono ?_); rintro en_ wb ⟨rfl, nd, rfl⟩; (try clear tc0 tc1 tc2 tc3 tc4 tc5); replace F := Aside0.mk (F.out.drewN nd); generalize World.drewN _ nd = wb at F ⊢; obtain ⟨tc0, tc1, tc2, tc3, tc4, tc5⟩ := p6_cells F.out.h9) | ((with_reducible refine gate_store (t := 3) (p := 15) (v := .tmp 14) rfl ?_); obtain ⟨r0, r1, r2, r3, r4, r5⟩ := froz F.out.h9; refine store_event (w1 := ?wwwc) ?hgwc rfl rfl ?hrwc ?_; (case hgwc => rfl); (case hrwc => go_simp; rfl); intro wc hw; clear r0 r1 r2 r3 r4 r5; (try clear tc0 tc1 tc2 tc3 tc4 tc5); have hF_ : TF w wc g6 g9 (i : Int) (e : Int) (-1) (-1) 0 0 := (by rw [hw]; exact (F.out.set 1 (.int .i64 (e : Int)) rfl)); replace F := Aside0.mk hF_; clear hF_ hw; obtain ⟨tc0, tc1, tc2, tc3, tc4, tc5⟩ := p6_cells F.out.h9) | ((with_reducible refine gate_store (t := 3) (p := 59) (v := .tmp 58) rfl ?_); obtain ⟨r0, r1, r2, r3, r4, r5⟩ := froz F.out.h9; refine store_event (w1 := ?wwwe) ?hgwe rfl rfl ?hrwe ?_; (case hgwe => rfl); (case hrwe => go_simp; rfl); intro we hw; clear r0 r1 r2 r3 r4 r5; (try clear tc0 tc1 tc2 tc3 tc4 tc5); have hF_ : TF w we g6 g9 (i : Int) (e : Int) (-1) (e : Int) 0 0 := (by rw [hw]; exact (F.out.set 3 (.int .i64 (e : Int)) rfl)); replace F := Aside0.mk hF_; clear hF_ hw; obtain ⟨tc0, tc1, tc2, tc3, tc4, tc5⟩ := p6_cells F.out.h9) | ((with_reducible refine gate_store (t := 3) (p := 62) (v := .tmp 61) rfl ?_); obtain ⟨r0, r1, r2, r3, r4, r5⟩ := froz F.out.h9; refine store_event (w1 := ?wwwf) ?hgwf rfl rfl ?hrwf ?_; (case hgwf => rfl); (case hrwf => go_simp; rfl); intro wf hw; clear r0 r1 r2 r3 r4 r5; (try clear tc0 tc1 tc2 tc3 tc4 tc5); have hF_ : TF w wf g6 g9 (i : Int) (e : Int) (-1) (e : Int) ((e : Int) + 1) 0 := (by rw [hw]; exact (F.out.set 4 (.int .i64 ((e : Int) + 1)) rfl)); replace F := Aside0.mk hF_; clear hF_ hw; obtain ⟨tc0, tc1, tc2, tc3, tc4, tc5⟩ := p6_cells F.out.h9) | (go_at_call 41; (with_reducible refine (vivariumref04_digits.calls (s.size + 1) s ((e : Int) + 1) ((e : Int) + 1) _ D2.out).mono ?_); rintro en_ wg ⟨rfl, nd, rfl⟩; (try clear tc0 tc1 tc2 tc3 tc4 tc5); replace F := Aside0.mk (F.out.drewN nd); generalize World.drewN _ nd = wg at F ⊢; obtain ⟨tc0, tc1, tc2, tc3, tc4, tc5⟩ := p6_cells F.out.h9) | ((with_reducible refine gate_store (t := 3) (p := 67) (v := .tmp 66) rfl ?_); obtain ⟨r0, r1, r2, r3, r4, r5⟩ := froz F.out.h9; refine store_event (w1 := ?wwwh) ?hgwh rfl rfl ?hrwh ?_; (case hgwh => rfl); (case hrwh => go_simp; rfl); intro wh hw; clear r0 r1 r2 r3 r4 r5; (try clear tc0 tc1 tc2 tc3 tc4 tc5); have hF_ : TF w wh g6 g9 (i : Int) (e : Int) (-1) (e : Int) ((e : Int) + 1) ((e : Int) + 1) := (by rw [hw]; exact (F.out.set 5 (.int .i64 ((e : Int) + 1)) rfl)); replace F := Aside0.mk hF_; clear hF_ hw; obtain ⟨tc0, tc1, tc2, tc3, tc4, tc5⟩ := p6_cells F.out.h9))
  (try clear tc0 tc1 tc2 tc3 tc4 tc5)
  refine start_ (n := 6) (S := fun w' => w'.cell? ⟨g9, 0, none⟩ = some (.int .i64 (i : Int)) ∧ w'.cell? ⟨g9, 1, none⟩ = some (.int .i64 (e : Int)) ∧ w'.cell? ⟨g9, 2, none⟩ = some (.int .i64 (-1)) ∧ w'.cell? ⟨g9, 3, none⟩ = some (.int .i64 (e : Int)) ∧ w'.cell? ⟨g9, 4, none⟩ = some (.int .i64 ((e : Int) + 1)) ∧ w'.cell? ⟨g9, 5, none⟩ = some (.int .i64 ((e : Int) + 1))) (ds := []) #[false, false, false, false, false, false] (by kernel_rfl) rfl rfl (p6_cells F.out.h9) (fun hHeld => ?_)
  replace F := Aside0.mk F.out.drew
  generalize wh.drew = wx at F hHeld ⊢
  refine take_ (i := 0) (N := (some 73)) (v := ?_) (a' := ?_) #[true, false, false, false, false, false] rfl rfl (by kernel_rfl) (fun _ _ _ h => h) (Or.inl ⟨by rfl, ?_⟩) hHeld ?_ ?_
  rotate_left
  · rintro w' ⟨s0, s1, s2, s3, s4, s5⟩
    go_simp
    with_reducible rfl
  rotate_left
  · simp only [Act.put, List.setIfInBounds_toArray, List.set_cons_zero, List.set_cons_succ, i64_w, i32_w]
    rfl
  refine pure_ (i := 1) (N := (some 74)) (v := ?_) (a' := ?_) #[true, true, false, false, false, false] rfl rfl (by kernel_rfl) (fun _ _ _ h => h) (Or.inl ⟨by rfl, ?_⟩) ?_ ?_
  rotate_left
  · intro w'
    go_simp
    with_reducible rfl
  rotate_left
  · simp only [Act.put, List.setIfInBounds_toArray, List.set_cons_zero, List.set_cons_succ, i64_w, i32_w]
    rfl
  refine take_ (i := 2) (N := (some 75)) (v := ?_) (a' := ?_) #[true, true, true, false, false, false] rfl rfl (by kernel_rfl) (fun _ _ _ h => h) (Or.inl ⟨by rfl, ?_⟩) hHeld ?_ ?_
  rotate_left
  · rintro w' ⟨s0, s1, s2, s3, s4, s5⟩
    go_simp
    with_reducible rfl
  rotate_left
  · simp only [Act.put, List.setIfInBounds_toArray, List.set_cons_zero, List.set_cons_succ, i64_w, i32_w]
    rfl
  refine one_ (i := 3) (N := none) #[true, true, true, true, false, false] rfl rfl (by kernel_rfl) (by decide) (fun K hK => ?_)
  obtain ⟨r0, r1, r2, r3, r4, r5⟩ := froz F.out.h6
  obtain ⟨s0, s1, s2, s3, s4, s5⟩ := p6_cells F.out.h6
  refine skip_ (w1 := ?_) (by rfl) rfl ?_ ?_
  rotate_left
  · go_simp
    rfl
  clear r0 r1 r2 r3 r4 r5 s0 s1 s2 s3 s4 s5
  have FD := Aside0.mk (F.out.done (i : Int) (e : Int) (-1) (e : Int) ((e : Int) + 1) ((e : Int) + 1))
  refine hK.out _ _ (F.out.done9 _ _ _ _ _ _) (fun hHeld => ?_)
  clear hK K
  refine pure_ (i := 4) (N := (some 7)) (v := ?_) (a' := ?_) #[true, true, true, true, true, false] rfl rfl (by kernel_rfl) (fun _ _ _ h => h) (Or.inl ⟨by rfl, ?_⟩) ?_ ?_
  rotate_left
  · intro w'
    go_simp
    with_reducible rfl
  rotate_left
  · simp only [Act.put, List.setIfInBounds_toArray, List.set_cons_zero, List.set_cons_succ, i64_w, i32_w]
    rfl
  refine pure_ (i := 5) (N := (some 8)) (v := ?_) (a' := ?_) #[true, true, true, true, true, true] rfl rfl (by kernel_rfl) (fun _ _ _ h => h) (Or.inl ⟨by rfl, ?_⟩) ?_ ?_
  rotate_left
  · intro w'
    go_simp
    with_reducible rfl
  rotate_left
  · simp only [Act.put, List.setIfInBounds_toArray, List.set_cons_zero, List.set_cons_succ, i64_w, i32_w]
    rfl
  refine done_ (by kernel_rfl) ?_
  try go_wp2
  refine bodyPost_ret (results_ctt rfl _ _ g6 66 #[.int .i64 (i : Int), .int .i64 (e : Int), .int .i64 (-1), .int .i64 (e : Int), .int .i64 ((e : Int) + 1), .int .i64 ((e : Int) + 1)] (0, 0) _ rfl FD.out.1 Try.underlying66 rfl (by kernel_rfl)) rfl ?_
  exact ⟨rfl, FD.out.2⟩
set_option maxHeartbeats 4000000 in
set_option maxRecDepth 100000 in
theorem tk_t0m (s : ByteArray) (i : Nat) (e : Nat) (hs : s.size ≤ 1048576) (hi : i ≤ s.size) (hd : dg s i = e) (hne : e ≠ i) (n2 : ¬ (e < s.size ∧ bt s (e : Int) = 42)) (n3 : e < s.size) (m3 : bt s (e : Int) = 45) (t : Nat) (h5 : dg s (e + 1) = t) (h6 : t ≠ (e + 1)) (w : World) :
    Calls Try.prog 38 #[.string s, .int .i64 (i : Int), .bool true] w fun en w' => en = .returned (.tuple #[.agg #[.int .i64 (i : Int), .int .i64 (e : Int), .int .i64 (-1), .int .i64 (e : Int), .int .i64 ((e : Int) + 1), .int .i64 (t : Int)], .int .i64 (t : Int), .int .i64 0]) ∧ Below w.heap.size w w' := by
  have hu := Try.underlying66
  have HB := Aside0.mk (Below.refl w.heap.size w)
  have D1 : Aside0 (vivariumref04_digits.f (s.size + 1) s (i : Int) = some (e : Int)) := ⟨by rw [digits_f s hs i hi, hd]⟩
  have b1 : ((e : Int) == (i : Int)) = false := by simp only [beq_eq_false_iff_ne, ne_eq]; omega
  have hle : e ≤ s.size := by rw [← hd]; exact dg_le hi
  have b3 : decide ((e : Int) < (s.size : Int)) = true := decide_eq_true (by omega)
  have p3 : ((e : Int) < (s.size : Int)) = True := eq_true (by omega)
  have z3 : ((0 : Int) ≤ (e : Int)) = True := eq_true (by omega)
  have x3 : ∀ h : e < s.size, ((s[e]'h).toNat : Int) = bt s (e : Int) := bt_at s (e : Int)
  have y3 : (bt s (e : Int) == 43) = false := by rw [m3]; rfl
  have y4 : (bt s (e : Int) == 45) = true := by rw [m3]; rfl
  have y5 : (bt s (e : Int) == 42) = false := by rw [m3]; rfl
  have D2 : Aside0 (vivariumref04_digits.f (s.size + 1) s ((e : Int) + 1) = some (t : Int)) := ⟨by have h_ := digits_f s hs (e + 1) (by omega); rw [h5] at h_; exact h_⟩
  have b5 : ((t : Int) == ((e : Int) + 1)) = false := by simp only [beq_eq_false_iff_ne, ne_eq]; omega
  (try clear hd); (try clear m2); (try clear m3); (try clear h5); (try clear hne); (try clear h6)
  go_enter Try.func38, Try.ntmps38
  go_wp2_with (first | ((with_reducible refine gate_dst (N := 6) rfl ?_); refine box_event ?hg (N := 6) ?hd (cs := #[.int .i64 0, .int .i64 0, .int .i64 0, .int .i64 0, .int .i64 0, .int .i64 0]) (t := 66) ?hr ?_; (case hd => rfl); (case hg => rfl); (case hr => first | (go_simp; done) | (go_simp; rfl)); intro g6 hg6 wg6 hbox hb; have G6 := Aside0.mk (Nat.le_of_eq hg6.symm); have H6 := Aside0.mk hbox; replace HB := Aside0.mk (below_step HB.out hb); clear hb hbox hg6) | ((with_reducible refine gate_dst (N := 9) rfl ?_); refine box_event ?hg (N := 9) ?hd (cs := #[.int .i64 0, .int .i64 0, .int .i64 0, .int .i64 0, .int .i64 0, .int .i64 0]) (t := 66) ?hr ?_; (case hd => rfl); (case hg => rfl); (case hr => first | (go_simp; done) | (go_simp; rfl)); intro g9 hg9 wg9 hbox hb; have G9 := Aside0.mk (show w.heap.size ≤ g9 by rw [hg9]; exact HB.out.size); have N69 := Aside0.mk (show g6 ≠ g9 by rw [hg9]; exact Nat.ne_of_lt (blk_lt H6.out)); have F : Aside0 (TF w wg9 g6 g9 0 0 0 0 0 0) := ⟨⟨below_step HB.out hb, blk_below H6.out hb, hbox, G6.out, G9.out, N69.out⟩⟩; clear hb hbox hg9 H6 HB; obtain ⟨tc0, tc1, tc2, tc3, tc4, tc5⟩ := p6_cells F.out.h9) | ((with_reducible refine gate_store (t := 66) (p := 9) (v := .tmp 11) rfl ?_); obtain ⟨r0, r1, r2, r3, r4, r5⟩ := froz F.out.h9; refine store_event (w1 := ?wwwa) ?hgwa rfl rfl ?hrwa ?_; (case hgwa => rfl); (case hrwa => go_simp; rfl); intro wa hw; clear r0 r1 r2 r3 r4 r5; (try clear tc0 tc1 tc2 tc3 tc4 tc5); have hF_ : TF w wa g6 g9 (i : Int) 0 (-1) (-1) 0 0 := (by rw [hw]; exact ((((((F.out.set 0 (.int .i64 (i : Int)) rfl).set 1 (.int .i64 0) rfl).set 2 (.int .i64 (-1)) rfl).set 3 (.int .i64 (-1)) rfl).set 4 (.int .i64 0) rfl).set 5 (.int .i64 0) rfl)); replace F := Aside0.mk hF_; clear hF_ hw; obtain ⟨tc0, tc1, tc2, tc3, tc4, tc5⟩ := p6_cells F.out.h9) | (go_at_call 41; (with_reducible refine (vivariumref04_digits.calls (s.size + 1) s (i : Int) (e : Int) _ D1.out).mono ?_); rintro en_ wb ⟨rfl, nd, rfl⟩; (try clear tc0 tc1 tc2 tc3 tc4 tc5); replace F := Aside0.mk (F.out.drewN nd); generalize World.drewN _ nd = wb at F ⊢; obtain ⟨tc0, tc1, tc2, tc3, tc4, tc5⟩ := p6_cells F.out.h9) | ((with_reducible refine gate_store (t := 3) (p := 15) (v := .tmp 14) rfl ?_); obtain ⟨r0, r1, r2, r3, r4, r5⟩ := froz F.out.h9; refine store_event (w1 := ?wwwc) ?hgwc rfl rfl ?hrwc ?_; (case hgwc => rfl); (case hrwc => go_simp; rfl); intro wc hw; clear r0 r1 r2 r3 r4 r5; (try clear tc0 tc1 tc2 tc3 tc4 tc5); have hF_ : TF w wc g6 g9 (i : Int) (e : Int) (-1) (-1) 0 0 := (by rw [hw]; exact (F.out.set 1 (.int .i64 (e : Int)) rfl)); replace F := Aside0.mk hF_; clear hF_ hw; obtain ⟨tc0, tc1, tc2, tc3, tc4, tc5⟩ := p6_cells F.out.h9) | ((with_reducible refine gate_store (t := 3) (p := 59) (v := .tmp 58) rfl ?_); obtain ⟨r0, r1, r2, r3, r4, r5⟩ := froz F.out.h9; refine store_event (w1 := ?wwwe) ?hgwe rfl rfl ?hrwe ?_; (case hgwe => rfl); (case hrwe => go_simp; rfl); intro we hw; clear r0 r1 r2 r3 r4 r5; (try clear tc0 tc1 tc2 tc3 tc4 tc5); have hF_ : TF w we g6 g9 (i : Int) (e : Int) (-1) (e : Int) 0 0 := (by rw [hw]; exact (F.out.set 3 (.int .i64 (e : Int)) rfl)); replace F := Aside0.mk hF_; clear hF_ hw; obtain ⟨tc0, tc1, tc2, tc3, tc4, tc5⟩ := p6_cells F.out.h9) | ((with_reducible refine gate_store (t := 3) (p := 62) (v := .tmp 61) rfl ?_); obtain ⟨r0, r1, r2, r3, r4, r5⟩ := froz F.out.h9; refine store_event (w1 := ?wwwf) ?hgwf rfl rfl ?hrwf ?_; (case hgwf => rfl); (case hrwf => go_simp; rfl); intro wf hw; clear r0 r1 r2 r3 r4 r5; (try clear tc0 tc1 tc2 tc3 tc4 tc5); have hF_ : TF w wf g6 g9 (i : Int) (e : Int) (-1) (e : Int) ((e : Int) + 1) 0 := (by rw [hw]; exact (F.out.set 4 (.int .i64 ((e : Int) + 1)) rfl)); replace F := Aside0.mk hF_; clear hF_ hw; obtain ⟨tc0, tc1, tc2, tc3, tc4, tc5⟩ := p6_cells F.out.h9) | (go_at_call 41; (with_reducible refine (vivariumref04_digits.calls (s.size + 1) s ((e : Int) + 1) (t : Int) _ D2.out).mono ?_); rintro en_ wg ⟨rfl, nd, rfl⟩; (try clear tc0 tc1 tc2 tc3 tc4 tc5); replace F := Aside0.mk (F.out.drewN nd); generalize World.drewN _ nd = wg at F ⊢; obtain ⟨tc0, tc1, tc2, tc3, tc4, tc5⟩ := p6_cells F.out.h9) | ((with_reducible refine gate_store (t := 3) (p := 67) (v := .tmp 66) rfl ?_); obtain ⟨r0, r1, r2, r3, r4, r5⟩ := froz F.out.h9; refine store_event (w1 := ?wwwh) ?hgwh rfl rfl ?hrwh ?_; (case hgwh => rfl); (case hrwh => go_simp; rfl); intro wh hw; clear r0 r1 r2 r3 r4 r5; (try clear tc0 tc1 tc2 tc3 tc4 tc5); have hF_ : TF w wh g6 g9 (i : Int) (e : Int) (-1) (e : Int) ((e : Int) + 1) (t : Int) := (by rw [hw]; exact (F.out.set 5 (.int .i64 (t : Int)) rfl)); replace F := Aside0.mk hF_; clear hF_ hw; obtain ⟨tc0, tc1, tc2, tc3, tc4, tc5⟩ := p6_cells F.out.h9) | ((with_reducible refine gate_store (t := 66) (p := 6) (v := .tmp 78) rfl ?_); obtain ⟨r0, r1, r2, r3, r4, r5⟩ := froz F.out.h6; obtain ⟨s0, s1, s2, s3, s4, s5⟩ := p6_cells F.out.h6; refine store_event (w1 := ?wwwz) ?hgwz rfl rfl ?hrwz ?_; (case hgwz => rfl); (case hrwz => go_simp; rfl); intro wz hw; clear r0 r1 r2 r3 r4 r5 s0 s1 s2 s3 s4 s5; (try clear tc0 tc1 tc2 tc3 tc4 tc5); have hD := F.out.done (i : Int) (e : Int) (-1) (e : Int) ((e : Int) + 1) (t : Int); rw [← hw] at hD; have FD := Aside0.mk hD; clear hD hw F))
  refine bodyPost_ret (results_ctt rfl _ _ g6 66 #[.int .i64 (i : Int), .int .i64 (e : Int), .int .i64 (-1), .int .i64 (e : Int), .int .i64 ((e : Int) + 1), .int .i64 (t : Int)] (0, 0) _ rfl FD.out.1 Try.underlying66 rfl (by kernel_rfl)) rfl ?_
  exact ⟨rfl, FD.out.2⟩
set_option maxHeartbeats 4000000 in
set_option maxRecDepth 100000 in
theorem tk_f0m (s : ByteArray) (i : Nat) (e : Nat) (hs : s.size ≤ 1048576) (hi : i ≤ s.size) (hd : dg s i = e) (hne : e ≠ i) (n2 : ¬ (e < s.size ∧ bt s (e : Int) = 42)) (n3 : e < s.size) (m3 : bt s (e : Int) = 45) (h5 : dg s (e + 1) = (e + 1)) (w : World) :
    Calls Try.prog 38 #[.string s, .int .i64 (i : Int), .bool true] w fun en w' => en = .returned (.tuple #[.agg #[.int .i64 (i : Int), .int .i64 (e : Int), .int .i64 (-1), .int .i64 (e : Int), .int .i64 ((e : Int) + 1), .int .i64 ((e : Int) + 1)], .int .i64 ((e : Int) + 1), .int .i64 43]) ∧ Below w.heap.size w w' := by
  have hu := Try.underlying66
  have HB := Aside0.mk (Below.refl w.heap.size w)
  have D1 : Aside0 (vivariumref04_digits.f (s.size + 1) s (i : Int) = some (e : Int)) := ⟨by rw [digits_f s hs i hi, hd]⟩
  have b1 : ((e : Int) == (i : Int)) = false := by simp only [beq_eq_false_iff_ne, ne_eq]; omega
  have hle : e ≤ s.size := by rw [← hd]; exact dg_le hi
  have b3 : decide ((e : Int) < (s.size : Int)) = true := decide_eq_true (by omega)
  have p3 : ((e : Int) < (s.size : Int)) = True := eq_true (by omega)
  have z3 : ((0 : Int) ≤ (e : Int)) = True := eq_true (by omega)
  have x3 : ∀ h : e < s.size, ((s[e]'h).toNat : Int) = bt s (e : Int) := bt_at s (e : Int)
  have y3 : (bt s (e : Int) == 43) = false := by rw [m3]; rfl
  have y4 : (bt s (e : Int) == 45) = true := by rw [m3]; rfl
  have y5 : (bt s (e : Int) == 42) = false := by rw [m3]; rfl
  have D2 : Aside0 (vivariumref04_digits.f (s.size + 1) s ((e : Int) + 1) = some ((e : Int) + 1)) := ⟨by have h_ := digits_f s hs (e + 1) (by omega); rw [h5] at h_; exact h_⟩
  have b5 : (((e : Int) + 1) == ((e : Int) + 1)) = true := by simp
  (try clear hd); (try clear m2); (try clear m3); (try clear h5); (try clear hne); (try clear h6)
  go_enter Try.func38, Try.ntmps38
  go_upto_region 16 with (first | ((with_reducible refine gate_dst (N := 6) rfl ?_); refine box_event ?hg (N := 6) ?hd (cs := #[.int .i64 0, .int .i64 0, .int .i64 0, .int .i64 0, .int .i64 0, .int .i64 0]) (t := 66) ?hr ?_; (case hd => rfl); (case hg => rfl); (case hr => first | (go_simp; done) | (go_simp; rfl)); intro g6 hg6 wg6 hbox hb; have G6 := Aside0.mk (Nat.le_of_eq hg6.symm); have H6 := Aside0.mk hbox; replace HB := Aside0.mk (below_step HB.out hb); clear hb hbox hg6) | ((with_reducible refine gate_dst (N := 9) rfl ?_); refine box_event ?hg (N := 9) ?hd (cs := #[.int .i64 0, .int .i64 0, .int .i64 0, .int .i64 0, .int .i64 0, .int .i64 0]) (t := 66) ?hr ?_; (case hd => rfl); (case hg => rfl); (case hr => first | (go_simp; done) | (go_simp; rfl)); intro g9 hg9 wg9 hbox hb; have G9 := Aside0.mk (show w.heap.size ≤ g9 by rw [hg9]; exact HB.out.size); have N69 := Aside0.mk (show g6 ≠ g9 by rw [hg9]; exact Nat.ne_of_lt (blk_lt H6.out)); have F : Aside0 (TF w wg9 g6 g9 0 0 0 0 0 0) := ⟨⟨below_step HB.out hb, blk_below H6.out hb, hbox, G6.out, G9.out, N69.out⟩⟩; clear hb hbox hg9 H6 HB; obtain ⟨tc0, tc1, tc2, tc3, tc4, tc5⟩ := p6_cells F.out.h9) | ((with_reducible refine gate_store (t := 66) (p := 9) (v := .tmp 11) rfl ?_); obtain ⟨r0, r1, r2, r3, r4, r5⟩ := froz F.out.h9; refine store_event (w1 := ?wwwa) ?hgwa rfl rfl ?hrwa ?_; (case hgwa => rfl); (case hrwa => go_simp; rfl); intro wa hw; clear r0 r1 r2 r3 r4 r5; (try clear tc0 tc1 tc2 tc3 tc4 tc5); have hF_ : TF w wa g6 g9 (i : Int) 0 (-1) (-1) 0 0 := (by rw [hw]; exact ((((((F.out.set 0 (.int .i64 (i : Int)) rfl).set 1 (.int .i64 0) rfl).set 2 (.int .i64 (-1)) rfl).set 3 (.int .i64 (-1)) rfl).set 4 (.int .i64 0) rfl).set 5 (.int .i64 0) rfl)); replace F := Aside0.mk hF_; clear hF_ hw; obtain ⟨tc0, tc1, tc2, tc3, tc4, tc5⟩ := p6_cells F.out.h9) | (go_at_call 41; (with_reducible refine (vivariumref04_digits.calls (s.size + 1) s (i : Int) (e : Int) _ D1.out).mono ?_); rintro en_ wb ⟨rfl, nd, rfl⟩; (try clear tc0 tc1 tc2 tc3 tc4 tc5); replace F := Aside0.mk (F.out.drewN nd); generalize World.drewN _ nd = wb at F ⊢; obtain ⟨tc0, tc1, tc2, tc3, tc4, tc5⟩ := p6_cells F.out.h9) | ((with_reducible refine gate_store (t := 3) (p := 15) (v := .tmp 14) rfl ?_); obtain ⟨r0, r1, r2, r3, r4, r5⟩ := froz F.out.h9; refine store_event (w1 := ?wwwc) ?hgwc rfl rfl ?hrwc ?_; (case hgwc => rfl); (case hrwc => go_simp; rfl); intro wc hw; clear r0 r1 r2 r3 r4 r5; (try clear tc0 tc1 tc2 tc3 tc4 tc5); have hF_ : TF w wc g6 g9 (i : Int) (e : Int) (-1) (-1) 0 0 := (by rw [hw]; exact (F.out.set 1 (.int .i64 (e : Int)) rfl)); replace F := Aside0.mk hF_; clear hF_ hw; obtain ⟨tc0, tc1, tc2, tc3, tc4, tc5⟩ := p6_cells F.out.h9) | ((with_reducible refine gate_store (t := 3) (p := 59) (v := .tmp 58) rfl ?_); obtain ⟨r0, r1, r2, r3, r4, r5⟩ := froz F.out.h9; refine store_event (w1 := ?wwwe) ?hgwe rfl rfl ?hrwe ?_; (case hgwe => rfl); (case hrwe => go_simp; rfl); intro we hw; clear r0 r1 r2 r3 r4 r5; (try clear tc0 tc1 tc2 tc3 tc4 tc5); have hF_ : TF w we g6 g9 (i : Int) (e : Int) (-1) (e : Int) 0 0 := (by rw [hw]; exact (F.out.set 3 (.int .i64 (e : Int)) rfl)); replace F := Aside0.mk hF_; clear hF_ hw; obtain ⟨tc0, tc1, tc2, tc3, tc4, tc5⟩ := p6_cells F.out.h9) | ((with_reducible refine gate_store (t := 3) (p := 62) (v := .tmp 61) rfl ?_); obtain ⟨r0, r1, r2, r3, r4, r5⟩ := froz F.out.h9; refine store_event (w1 := ?wwwf) ?hgwf rfl rfl ?hrwf ?_; (case hgwf => rfl); (case hrwf => go_simp; rfl); intro wf hw; clear r0 r1 r2 r3 r4 r5; (try clear tc0 tc1 tc2 tc3 tc4 tc5); have hF_ : TF w wf g6 g9 (i : Int) (e : Int) (-1) (e : Int) ((e : Int) + 1) 0 := (by rw [hw]; exact (F.out.set 4 (.int .i64 ((e : Int) + 1)) rfl)); replace F := Aside0.mk hF_; clear hF_ hw; obtain ⟨tc0, tc1, tc2, tc3, tc4, tc5⟩ := p6_cells F.out.h9) | (go_at_call 41; (with_reducible refine (vivariumref04_digits.calls (s.size + 1) s ((e : Int) + 1) ((e : Int) + 1) _ D2.out).mono ?_); rintro en_ wg ⟨rfl, nd, rfl⟩; (try clear tc0 tc1 tc2 tc3 tc4 tc5); replace F := Aside0.mk (F.out.drewN nd); generalize World.drewN _ nd = wg at F ⊢; obtain ⟨tc0, tc1, tc2, tc3, tc4, tc5⟩ := p6_cells F.out.h9) | ((with_reducible refine gate_store (t := 3) (p := 67) (v := .tmp 66) rfl ?_); obtain ⟨r0, r1, r2, r3, r4, r5⟩ := froz F.out.h9; refine store_event (w1 := ?wwwh) ?hgwh rfl rfl ?hrwh ?_; (case hgwh => rfl); (case hrwh => go_simp; rfl); intro wh hw; clear r0 r1 r2 r3 r4 r5; (try clear tc0 tc1 tc2 tc3 tc4 tc5); have hF_ : TF w wh g6 g9 (i : Int) (e : Int) (-1) (e : Int) ((e : Int) + 1) ((e : Int) + 1) := (by rw [hw]; exact (F.out.set 5 (.int .i64 ((e : Int) + 1)) rfl)); replace F := Aside0.mk hF_; clear hF_ hw; obtain ⟨tc0, tc1, tc2, tc3, tc4, tc5⟩ := p6_cells F.out.h9))
  (try clear tc0 tc1 tc2 tc3 tc4 tc5)
  refine start_ (n := 6) (S := fun w' => w'.cell? ⟨g9, 0, none⟩ = some (.int .i64 (i : Int)) ∧ w'.cell? ⟨g9, 1, none⟩ = some (.int .i64 (e : Int)) ∧ w'.cell? ⟨g9, 2, none⟩ = some (.int .i64 (-1)) ∧ w'.cell? ⟨g9, 3, none⟩ = some (.int .i64 (e : Int)) ∧ w'.cell? ⟨g9, 4, none⟩ = some (.int .i64 ((e : Int) + 1)) ∧ w'.cell? ⟨g9, 5, none⟩ = some (.int .i64 ((e : Int) + 1))) (ds := []) #[false, false, false, false, false, false] (by kernel_rfl) rfl rfl (p6_cells F.out.h9) (fun hHeld => ?_)
  replace F := Aside0.mk F.out.drew
  generalize wh.drew = wx at F hHeld ⊢
  refine take_ (i := 0) (N := (some 73)) (v := ?_) (a' := ?_) #[true, false, false, false, false, false] rfl rfl (by kernel_rfl) (fun _ _ _ h => h) (Or.inl ⟨by rfl, ?_⟩) hHeld ?_ ?_
  rotate_left
  · rintro w' ⟨s0, s1, s2, s3, s4, s5⟩
    go_simp
    with_reducible rfl
  rotate_left
  · simp only [Act.put, List.setIfInBounds_toArray, List.set_cons_zero, List.set_cons_succ, i64_w, i32_w]
    rfl
  refine pure_ (i := 1) (N := (some 74)) (v := ?_) (a' := ?_) #[true, true, false, false, false, false] rfl rfl (by kernel_rfl) (fun _ _ _ h => h) (Or.inl ⟨by rfl, ?_⟩) ?_ ?_
  rotate_left
  · intro w'
    go_simp
    with_reducible rfl
  rotate_left
  · simp only [Act.put, List.setIfInBounds_toArray, List.set_cons_zero, List.set_cons_succ, i64_w, i32_w]
    rfl
  refine take_ (i := 2) (N := (some 75)) (v := ?_) (a' := ?_) #[true, true, true, false, false, false] rfl rfl (by kernel_rfl) (fun _ _ _ h => h) (Or.inl ⟨by rfl, ?_⟩) hHeld ?_ ?_
  rotate_left
  · rintro w' ⟨s0, s1, s2, s3, s4, s5⟩
    go_simp
    with_reducible rfl
  rotate_left
  · simp only [Act.put, List.setIfInBounds_toArray, List.set_cons_zero, List.set_cons_succ, i64_w, i32_w]
    rfl
  refine one_ (i := 3) (N := none) #[true, true, true, true, false, false] rfl rfl (by kernel_rfl) (by decide) (fun K hK => ?_)
  obtain ⟨r0, r1, r2, r3, r4, r5⟩ := froz F.out.h6
  obtain ⟨s0, s1, s2, s3, s4, s5⟩ := p6_cells F.out.h6
  refine skip_ (w1 := ?_) (by rfl) rfl ?_ ?_
  rotate_left
  · go_simp
    rfl
  clear r0 r1 r2 r3 r4 r5 s0 s1 s2 s3 s4 s5
  have FD := Aside0.mk (F.out.done (i : Int) (e : Int) (-1) (e : Int) ((e : Int) + 1) ((e : Int) + 1))
  refine hK.out _ _ (F.out.done9 _ _ _ _ _ _) (fun hHeld => ?_)
  clear hK K
  refine pure_ (i := 4) (N := (some 7)) (v := ?_) (a' := ?_) #[true, true, true, true, true, false] rfl rfl (by kernel_rfl) (fun _ _ _ h => h) (Or.inl ⟨by rfl, ?_⟩) ?_ ?_
  rotate_left
  · intro w'
    go_simp
    with_reducible rfl
  rotate_left
  · simp only [Act.put, List.setIfInBounds_toArray, List.set_cons_zero, List.set_cons_succ, i64_w, i32_w]
    rfl
  refine pure_ (i := 5) (N := (some 8)) (v := ?_) (a' := ?_) #[true, true, true, true, true, true] rfl rfl (by kernel_rfl) (fun _ _ _ h => h) (Or.inl ⟨by rfl, ?_⟩) ?_ ?_
  rotate_left
  · intro w'
    go_simp
    with_reducible rfl
  rotate_left
  · simp only [Act.put, List.setIfInBounds_toArray, List.set_cons_zero, List.set_cons_succ, i64_w, i32_w]
    rfl
  refine done_ (by kernel_rfl) ?_
  try go_wp2
  refine bodyPost_ret (results_ctt rfl _ _ g6 66 #[.int .i64 (i : Int), .int .i64 (e : Int), .int .i64 (-1), .int .i64 (e : Int), .int .i64 ((e : Int) + 1), .int .i64 ((e : Int) + 1)] (0, 0) _ rfl FD.out.1 Try.underlying66 rfl (by kernel_rfl)) rfl ?_
  exact ⟨rfl, FD.out.2⟩
set_option maxHeartbeats 4000000 in
set_option maxRecDepth 100000 in
theorem tk_t1p (s : ByteArray) (i : Nat) (e : Nat) (hs : s.size ≤ 1048576) (hi : i ≤ s.size) (hd : dg s i = e) (hne : e ≠ i) (n2 : e < s.size) (m2 : bt s (e : Int) = 42)  (n3 : (e + 1) < s.size) (m3 : bt s ((e : Int) + 1) = 43) (t : Nat) (h5 : dg s ((e + 1) + 1) = t) (h6 : t ≠ ((e + 1) + 1)) (w : World) :
    Calls Try.prog 38 #[.string s, .int .i64 (i : Int), .bool true] w fun en w' => en = .returned (.tuple #[.agg #[.int .i64 (i : Int), .int .i64 (e : Int), .int .i64 (e : Int), .int .i64 ((e : Int) + 1), .int .i64 (((e : Int) + 1) + 1), .int .i64 (t : Int)], .int .i64 (t : Int), .int .i64 0]) ∧ Below w.heap.size w w' := by
  have hu := Try.underlying66
  have HB := Aside0.mk (Below.refl w.heap.size w)
  have D1 : Aside0 (vivariumref04_digits.f (s.size + 1) s (i : Int) = some (e : Int)) := ⟨by rw [digits_f s hs i hi, hd]⟩
  have b1 : ((e : Int) == (i : Int)) = false := by simp only [beq_eq_false_iff_ne, ne_eq]; omega
  have hle : e ≤ s.size := by rw [← hd]; exact dg_le hi
  have b2 : decide ((e : Int) < (s.size : Int)) = true := decide_eq_true (by omega)
  have p2 : ((e : Int) < (s.size : Int)) = True := eq_true (by omega)
  have z2 : ((0 : Int) ≤ (e : Int)) = True := eq_true (by omega)
  have x2 : ∀ h : e < s.size, ((s[e]'h).toNat : Int) = bt s (e : Int) := bt_at s (e : Int)
  have y2 : (bt s (e : Int) == 42) = true := by rw [m2]; rfl
  have b3 : decide (((e : Int) + 1) < (s.size : Int)) = true := decide_eq_true (by omega)
  have p3 : (((e : Int) + 1) < (s.size : Int)) = True := eq_true (by omega)
  have z3 : ((0 : Int) ≤ ((e : Int) + 1)) = True := eq_true (by omega)
  have x3 : ∀ h : e + 1 < s.size, ((s[e + 1]'h).toNat : Int) = bt s ((e : Int) + 1) := btN s (e + 1) _ (by omega)
  have y3 : (bt s ((e : Int) + 1) == 43) = true := by rw [m3]; rfl
  have D2 : Aside0 (vivariumref04_digits.f (s.size + 1) s (((e : Int) + 1) + 1) = some (t : Int)) := ⟨by have h_ := digits_f s hs ((e + 1) + 1) (by omega); rw [h5] at h_; exact h_⟩
  have b5 : ((t : Int) == (((e : Int) + 1) + 1)) = false := by simp only [beq_eq_false_iff_ne, ne_eq]; omega
  (try clear hd); (try clear m2); (try clear m3); (try clear h5); (try clear hne); (try clear h6)
  go_enter Try.func38, Try.ntmps38
  go_wp2_with (first | ((with_reducible refine gate_dst (N := 6) rfl ?_); refine box_event ?hg (N := 6) ?hd (cs := #[.int .i64 0, .int .i64 0, .int .i64 0, .int .i64 0, .int .i64 0, .int .i64 0]) (t := 66) ?hr ?_; (case hd => rfl); (case hg => rfl); (case hr => first | (go_simp; done) | (go_simp; rfl)); intro g6 hg6 wg6 hbox hb; have G6 := Aside0.mk (Nat.le_of_eq hg6.symm); have H6 := Aside0.mk hbox; replace HB := Aside0.mk (below_step HB.out hb); clear hb hbox hg6) | ((with_reducible refine gate_dst (N := 9) rfl ?_); refine box_event ?hg (N := 9) ?hd (cs := #[.int .i64 0, .int .i64 0, .int .i64 0, .int .i64 0, .int .i64 0, .int .i64 0]) (t := 66) ?hr ?_; (case hd => rfl); (case hg => rfl); (case hr => first | (go_simp; done) | (go_simp; rfl)); intro g9 hg9 wg9 hbox hb; have G9 := Aside0.mk (show w.heap.size ≤ g9 by rw [hg9]; exact HB.out.size); have N69 := Aside0.mk (show g6 ≠ g9 by rw [hg9]; exact Nat.ne_of_lt (blk_lt H6.out)); have F : Aside0 (TF w wg9 g6 g9 0 0 0 0 0 0) := ⟨⟨below_step HB.out hb, blk_below H6.out hb, hbox, G6.out, G9.out, N69.out⟩⟩; clear hb hbox hg9 H6 HB; obtain ⟨tc0, tc1, tc2, tc3, tc4, tc5⟩ := p6_cells F.out.h9) | ((with_reducible refine gate_store (t := 66) (p := 9) (v := .tmp 11) rfl ?_); obtain ⟨r0, r1, r2, r3, r4, r5⟩ := froz F.out.h9; refine store_event (w1 := ?wwwa) ?hgwa rfl rfl ?hrwa ?_; (case hgwa => rfl); (case hrwa => go_simp; rfl); intro wa hw; clear r0 r1 r2 r3 r4 r5; (try clear tc0 tc1 tc2 tc3 tc4 tc5); have hF_ : TF w wa g6 g9 (i : Int) 0 (-1) (-1) 0 0 := (by rw [hw]; exact ((((((F.out.set 0 (.int .i64 (i : Int)) rfl).set 1 (.int .i64 0) rfl).set 2 (.int .i64 (-1)) rfl).set 3 (.int .i64 (-1)) rfl).set 4 (.int .i64 0) rfl).set 5 (.int .i64 0) rfl)); replace F := Aside0.mk hF_; clear hF_ hw; obtain ⟨tc0, tc1, tc2, tc3, tc4, tc5⟩ := p6_cells F.out.h9) | (go_at_call 41; (with_reducible refine (vivariumref04_digits.calls (s.size + 1) s (i : Int) (e : Int) _ D1.out).mono ?_); rintro en_ wb ⟨rfl, nd, rfl⟩; (try clear tc0 tc1 tc2 tc3 tc4 tc5); replace F := Aside0.mk (F.out.drewN nd); generalize World.drewN _ nd = wb at F ⊢; obtain ⟨tc0, tc1, tc2, tc3, tc4, tc5⟩ := p6_cells F.out.h9) | ((with_reducible refine gate_store (t := 3) (p := 15) (v := .tmp 14) rfl ?_); obtain ⟨r0, r1, r2, r3, r4, r5⟩ := froz F.out.h9; refine store_event (w1 := ?wwwc) ?hgwc rfl rfl ?hrwc ?_; (case hgwc => rfl); (case hrwc => go_simp; rfl); intro wc hw; clear r0 r1 r2 r3 r4 r5; (try clear tc0 tc1 tc2 tc3 tc4 tc5); have hF_ : TF w wc g6 g9 (i : Int) (e : Int) (-1) (-1) 0 0 := (by rw [hw]; exact (F.out.set 1 (.int .i64 (e : Int)) rfl)); replace F := Aside0.mk hF_; clear hF_ hw; obtain ⟨tc0, tc1, tc2, tc3, tc4, tc5⟩ := p6_cells F.out.h9) | ((with_reducible refine gate_store (t := 3) (p := 39) (v := .tmp 38) rfl ?_); obtain ⟨r0, r1, r2, r3, r4, r5⟩ := froz F.out.h9; refine store_event (w1 := ?wwwd) ?hgwd rfl rfl ?hrwd ?_; (case hgwd => rfl); (case hrwd => go_simp; rfl); intro wd hw; clear r0 r1 r2 r3 r4 r5; (try clear tc0 tc1 tc2 tc3 tc4 tc5); have hF_ : TF w wd g6 g9 (i : Int) (e : Int) (e : Int) (-1) 0 0 := (by rw [hw]; exact (F.out.set 2 (.int .i64 (e : Int)) rfl)); replace F := Aside0.mk hF_; clear hF_ hw; obtain ⟨tc0, tc1, tc2, tc3, tc4, tc5⟩ := p6_cells F.out.h9) | ((with_reducible refine gate_store (t := 3) (p := 59) (v := .tmp 58) rfl ?_); obtain ⟨r0, r1, r2, r3, r4, r5⟩ := froz F.out.h9; refine store_event (w1 := ?wwwe) ?hgwe rfl rfl ?hrwe ?_; (case hgwe => rfl); (case hrwe => go_simp; rfl); intro we hw; clear r0 r1 r2 r3 r4 r5; (try clear tc0 tc1 tc2 tc3 tc4 tc5); have hF_ : TF w we g6 g9 (i : Int) (e : Int) (e : Int) ((e : Int) + 1) 0 0 := (by rw [hw]; exact (F.out.set 3 (.int .i64 ((e : Int) + 1)) rfl)); replace F := Aside0.mk hF_; clear hF_ hw; obtain ⟨tc0, tc1, tc2, tc3, tc4, tc5⟩ := p6_cells F.out.h9) | ((with_reducible refine gate_store (t := 3) (p := 62) (v := .tmp 61) rfl ?_); obtain ⟨r0, r1, r2, r3, r4, r5⟩ := froz F.out.h9; refine store_event (w1 := ?wwwf) ?hgwf rfl rfl ?hrwf ?_; (case hgwf => rfl); (case hrwf => go_simp; rfl); intro wf hw; clear r0 r1 r2 r3 r4 r5; (try clear tc0 tc1 tc2 tc3 tc4 tc5); have hF_ : TF w wf g6 g9 (i : Int) (e : Int) (e : Int) ((e : Int) + 1) (((e : Int) + 1) + 1) 0 := (by rw [hw]; exact (F.out.set 4 (.int .i64 (((e : Int) + 1) + 1)) rfl)); replace F := Aside0.mk hF_; clear hF_ hw; obtain ⟨tc0, tc1, tc2, tc3, tc4, tc5⟩ := p6_cells F.out.h9) | (go_at_call 41; (with_reducible refine (vivariumref04_digits.calls (s.size + 1) s (((e : Int) + 1) + 1) (t : Int) _ D2.out).mono ?_); rintro en_ wg ⟨rfl, nd, rfl⟩; (try clear tc0 tc1 tc2 tc3 tc4 tc5); replace F := Aside0.mk (F.out.drewN nd); generalize World.drewN _ nd = wg at F ⊢; obtain ⟨tc0, tc1, tc2, tc3, tc4, tc5⟩ := p6_cells F.out.h9) | ((with_reducible refine gate_store (t := 3) (p := 67) (v := .tmp 66) rfl ?_); obtain ⟨r0, r1, r2, r3, r4, r5⟩ := froz F.out.h9; refine store_event (w1 := ?wwwh) ?hgwh rfl rfl ?hrwh ?_; (case hgwh => rfl); (case hrwh => go_simp; rfl); intro wh hw; clear r0 r1 r2 r3 r4 r5; (try clear tc0 tc1 tc2 tc3 tc4 tc5); have hF_ : TF w wh g6 g9 (i : Int) (e : Int) (e : Int) ((e : Int) + 1) (((e : Int) + 1) + 1) (t : Int) := (by rw [hw]; exact (F.out.set 5 (.int .i64 (t : Int)) rfl)); replace F := Aside0.mk hF_; clear hF_ hw; obtain ⟨tc0, tc1, tc2, tc3, tc4, tc5⟩ := p6_cells F.out.h9) | ((with_reducible refine gate_store (t := 66) (p := 6) (v := .tmp 78) rfl ?_); obtain ⟨r0, r1, r2, r3, r4, r5⟩ := froz F.out.h6; obtain ⟨s0, s1, s2, s3, s4, s5⟩ := p6_cells F.out.h6; refine store_event (w1 := ?wwwz) ?hgwz rfl rfl ?hrwz ?_; (case hgwz => rfl); (case hrwz => go_simp; rfl); intro wz hw; clear r0 r1 r2 r3 r4 r5 s0 s1 s2 s3 s4 s5; (try clear tc0 tc1 tc2 tc3 tc4 tc5); have hD := F.out.done (i : Int) (e : Int) (e : Int) ((e : Int) + 1) (((e : Int) + 1) + 1) (t : Int); rw [← hw] at hD; have FD := Aside0.mk hD; clear hD hw F))
  refine bodyPost_ret (results_ctt rfl _ _ g6 66 #[.int .i64 (i : Int), .int .i64 (e : Int), .int .i64 (e : Int), .int .i64 ((e : Int) + 1), .int .i64 (((e : Int) + 1) + 1), .int .i64 (t : Int)] (0, 0) _ rfl FD.out.1 Try.underlying66 rfl (by kernel_rfl)) rfl ?_
  exact ⟨rfl, FD.out.2⟩
set_option maxHeartbeats 4000000 in
set_option maxRecDepth 100000 in
theorem tk_f1p (s : ByteArray) (i : Nat) (e : Nat) (hs : s.size ≤ 1048576) (hi : i ≤ s.size) (hd : dg s i = e) (hne : e ≠ i) (n2 : e < s.size) (m2 : bt s (e : Int) = 42)  (n3 : (e + 1) < s.size) (m3 : bt s ((e : Int) + 1) = 43) (h5 : dg s ((e + 1) + 1) = ((e + 1) + 1)) (w : World) :
    Calls Try.prog 38 #[.string s, .int .i64 (i : Int), .bool true] w fun en w' => en = .returned (.tuple #[.agg #[.int .i64 (i : Int), .int .i64 (e : Int), .int .i64 (e : Int), .int .i64 ((e : Int) + 1), .int .i64 (((e : Int) + 1) + 1), .int .i64 (((e : Int) + 1) + 1)], .int .i64 (((e : Int) + 1) + 1), .int .i64 43]) ∧ Below w.heap.size w w' := by
  have hu := Try.underlying66
  have HB := Aside0.mk (Below.refl w.heap.size w)
  have D1 : Aside0 (vivariumref04_digits.f (s.size + 1) s (i : Int) = some (e : Int)) := ⟨by rw [digits_f s hs i hi, hd]⟩
  have b1 : ((e : Int) == (i : Int)) = false := by simp only [beq_eq_false_iff_ne, ne_eq]; omega
  have hle : e ≤ s.size := by rw [← hd]; exact dg_le hi
  have b2 : decide ((e : Int) < (s.size : Int)) = true := decide_eq_true (by omega)
  have p2 : ((e : Int) < (s.size : Int)) = True := eq_true (by omega)
  have z2 : ((0 : Int) ≤ (e : Int)) = True := eq_true (by omega)
  have x2 : ∀ h : e < s.size, ((s[e]'h).toNat : Int) = bt s (e : Int) := bt_at s (e : Int)
  have y2 : (bt s (e : Int) == 42) = true := by rw [m2]; rfl
  have b3 : decide (((e : Int) + 1) < (s.size : Int)) = true := decide_eq_true (by omega)
  have p3 : (((e : Int) + 1) < (s.size : Int)) = True := eq_true (by omega)
  have z3 : ((0 : Int) ≤ ((e : Int) + 1)) = True := eq_true (by omega)
  have x3 : ∀ h : e + 1 < s.size, ((s[e + 1]'h).toNat : Int) = bt s ((e : Int) + 1) := btN s (e + 1) _ (by omega)
  have y3 : (bt s ((e : Int) + 1) == 43) = true := by rw [m3]; rfl
  have D2 : Aside0 (vivariumref04_digits.f (s.size + 1) s (((e : Int) + 1) + 1) = some (((e : Int) + 1) + 1)) := ⟨by have h_ := digits_f s hs ((e + 1) + 1) (by omega); rw [h5] at h_; exact h_⟩
  have b5 : ((((e : Int) + 1) + 1) == (((e : Int) + 1) + 1)) = true := by simp
  (try clear hd); (try clear m2); (try clear m3); (try clear h5); (try clear hne); (try clear h6)
  go_enter Try.func38, Try.ntmps38
  go_upto_region 16 with (first | ((with_reducible refine gate_dst (N := 6) rfl ?_); refine box_event ?hg (N := 6) ?hd (cs := #[.int .i64 0, .int .i64 0, .int .i64 0, .int .i64 0, .int .i64 0, .int .i64 0]) (t := 66) ?hr ?_; (case hd => rfl); (case hg => rfl); (case hr => first | (go_simp; done) | (go_simp; rfl)); intro g6 hg6 wg6 hbox hb; have G6 := Aside0.mk (Nat.le_of_eq hg6.symm); have H6 := Aside0.mk hbox; replace HB := Aside0.mk (below_step HB.out hb); clear hb hbox hg6) | ((with_reducible refine gate_dst (N := 9) rfl ?_); refine box_event ?hg (N := 9) ?hd (cs := #[.int .i64 0, .int .i64 0, .int .i64 0, .int .i64 0, .int .i64 0, .int .i64 0]) (t := 66) ?hr ?_; (case hd => rfl); (case hg => rfl); (case hr => first | (go_simp; done) | (go_simp; rfl)); intro g9 hg9 wg9 hbox hb; have G9 := Aside0.mk (show w.heap.size ≤ g9 by rw [hg9]; exact HB.out.size); have N69 := Aside0.mk (show g6 ≠ g9 by rw [hg9]; exact Nat.ne_of_lt (blk_lt H6.out)); have F : Aside0 (TF w wg9 g6 g9 0 0 0 0 0 0) := ⟨⟨below_step HB.out hb, blk_below H6.out hb, hbox, G6.out, G9.out, N69.out⟩⟩; clear hb hbox hg9 H6 HB; obtain ⟨tc0, tc1, tc2, tc3, tc4, tc5⟩ := p6_cells F.out.h9) | ((with_reducible refine gate_store (t := 66) (p := 9) (v := .tmp 11) rfl ?_); obtain ⟨r0, r1, r2, r3, r4, r5⟩ := froz F.out.h9; refine store_event (w1 := ?wwwa) ?hgwa rfl rfl ?hrwa ?_; (case hgwa => rfl); (case hrwa => go_simp; rfl); intro wa hw; clear r0 r1 r2 r3 r4 r5; (try clear tc0 tc1 tc2 tc3 tc4 tc5); have hF_ : TF w wa g6 g9 (i : Int) 0 (-1) (-1) 0 0 := (by rw [hw]; exact ((((((F.out.set 0 (.int .i64 (i : Int)) rfl).set 1 (.int .i64 0) rfl).set 2 (.int .i64 (-1)) rfl).set 3 (.int .i64 (-1)) rfl).set 4 (.int .i64 0) rfl).set 5 (.int .i64 0) rfl)); replace F := Aside0.mk hF_; clear hF_ hw; obtain ⟨tc0, tc1, tc2, tc3, tc4, tc5⟩ := p6_cells F.out.h9) | (go_at_call 41; (with_reducible refine (vivariumref04_digits.calls (s.size + 1) s (i : Int) (e : Int) _ D1.out).mono ?_); rintro en_ wb ⟨rfl, nd, rfl⟩; (try clear tc0 tc1 tc2 tc3 tc4 tc5); replace F := Aside0.mk (F.out.drewN nd); generalize World.drewN _ nd = wb at F ⊢; obtain ⟨tc0, tc1, tc2, tc3, tc4, tc5⟩ := p6_cells F.out.h9) | ((with_reducible refine gate_store (t := 3) (p := 15) (v := .tmp 14) rfl ?_); obtain ⟨r0, r1, r2, r3, r4, r5⟩ := froz F.out.h9; refine store_event (w1 := ?wwwc) ?hgwc rfl rfl ?hrwc ?_; (case hgwc => rfl); (case hrwc => go_simp; rfl); intro wc hw; clear r0 r1 r2 r3 r4 r5; (try clear tc0 tc1 tc2 tc3 tc4 tc5); have hF_ : TF w wc g6 g9 (i : Int) (e : Int) (-1) (-1) 0 0 := (by rw [hw]; exact (F.out.set 1 (.int .i64 (e : Int)) rfl)); replace F := Aside0.mk hF_; clear hF_ hw; obtain ⟨tc0, tc1, tc2, tc3, tc4, tc5⟩ := p6_cells F.out.h9) | ((with_reducible refine gate_store (t := 3) (p := 39) (v := .tmp 38) rfl ?_); obtain ⟨r0, r1, r2, r3, r4, r5⟩ := froz F.out.h9; refine store_event (w1 := ?wwwd) ?hgwd rfl rfl ?hrwd ?_; (case hgwd => rfl); (case hrwd => go_simp; rfl); intro wd hw; clear r0 r1 r2 r3 r4 r5; (try clear tc0 tc1 tc2 tc3 tc4 tc5); have hF_ : TF w wd g6 g9 (i : Int) (e : Int) (e : Int) (-1) 0 0 := (by rw [hw]; exact (F.out.set 2 (.int .i64 (e : Int)) rfl)); replace F := Aside0.mk hF_; clear hF_ hw; obtain ⟨tc0, tc1, tc2, tc3, tc4, tc5⟩ := p6_cells F.out.h9) | ((with_reducible refine gate_store (t := 3) (p := 59) (v := .tmp 58) rfl ?_); obtain ⟨r0, r1, r2, r3, r4, r5⟩ := froz F.out.h9; refine store_event (w1 := ?wwwe) ?hgwe rfl rfl ?hrwe ?_; (case hgwe => rfl); (case hrwe => go_simp; rfl); intro we hw; clear r0 r1 r2 r3 r4 r5; (try clear tc0 tc1 tc2 tc3 tc4 tc5); have hF_ : TF w we g6 g9 (i : Int) (e : Int) (e : Int) ((e : Int) + 1) 0 0 := (by rw [hw]; exact (F.out.set 3 (.int .i64 ((e : Int) + 1)) rfl)); replace F := Aside0.mk hF_; clear hF_ hw; obtain ⟨tc0, tc1, tc2, tc3, tc4, tc5⟩ := p6_cells F.out.h9) | ((with_reducible refine gate_store (t := 3) (p := 62) (v := .tmp 61) rfl ?_); obtain ⟨r0, r1, r2, r3, r4, r5⟩ := froz F.out.h9; refine store_event (w1 := ?wwwf) ?hgwf rfl rfl ?hrwf ?_; (case hgwf => rfl); (case hrwf => go_simp; rfl); intro wf hw; clear r0 r1 r2 r3 r4 r5; (try clear tc0 tc1 tc2 tc3 tc4 tc5); have hF_ : TF w wf g6 g9 (i : Int) (e : Int) (e : Int) ((e : Int) + 1) (((e : Int) + 1) + 1) 0 := (by rw [hw]; exact (F.out.set 4 (.int .i64 (((e : Int) + 1) + 1)) rfl)); replace F := Aside0.mk hF_; clear hF_ hw; obtain ⟨tc0, tc1, tc2, tc3, tc4, tc5⟩ := p6_cells F.out.h9) | (go_at_call 41; (with_reducible refine (vivariumref04_digits.calls (s.size + 1) s (((e : Int) + 1) + 1) (((e : Int) + 1) + 1) _ D2.out).mono ?_); rintro en_ wg ⟨rfl, nd, rfl⟩; (try clear tc0 tc1 tc2 tc3 tc4 tc5); replace F := Aside0.mk (F.out.drewN nd); generalize World.drewN _ nd = wg at F ⊢; obtain ⟨tc0, tc1, tc2, tc3, tc4, tc5⟩ := p6_cells F.out.h9) | ((with_reducible refine gate_store (t := 3) (p := 67) (v := .tmp 66) rfl ?_); obtain ⟨r0, r1, r2, r3, r4, r5⟩ := froz F.out.h9; refine store_event (w1 := ?wwwh) ?hgwh rfl rfl ?hrwh ?_; (case hgwh => rfl); (case hrwh => go_simp; rfl); intro wh hw; clear r0 r1 r2 r3 r4 r5; (try clear tc0 tc1 tc2 tc3 tc4 tc5); have hF_ : TF w wh g6 g9 (i : Int) (e : Int) (e : Int) ((e : Int) + 1) (((e : Int) + 1) + 1) (((e : Int) + 1) + 1) := (by rw [hw]; exact (F.out.set 5 (.int .i64 (((e : Int) + 1) + 1)) rfl)); replace F := Aside0.mk hF_; clear hF_ hw; obtain ⟨tc0, tc1, tc2, tc3, tc4, tc5⟩ := p6_cells F.out.h9))
  (try clear tc0 tc1 tc2 tc3 tc4 tc5)
  refine start_ (n := 6) (S := fun w' => w'.cell? ⟨g9, 0, none⟩ = some (.int .i64 (i : Int)) ∧ w'.cell? ⟨g9, 1, none⟩ = some (.int .i64 (e : Int)) ∧ w'.cell? ⟨g9, 2, none⟩ = some (.int .i64 (e : Int)) ∧ w'.cell? ⟨g9, 3, none⟩ = some (.int .i64 ((e : Int) + 1)) ∧ w'.cell? ⟨g9, 4, none⟩ = some (.int .i64 (((e : Int) + 1) + 1)) ∧ w'.cell? ⟨g9, 5, none⟩ = some (.int .i64 (((e : Int) + 1) + 1))) (ds := []) #[false, false, false, false, false, false] (by kernel_rfl) rfl rfl (p6_cells F.out.h9) (fun hHeld => ?_)
  replace F := Aside0.mk F.out.drew
  generalize wh.drew = wx at F hHeld ⊢
  refine take_ (i := 0) (N := (some 73)) (v := ?_) (a' := ?_) #[true, false, false, false, false, false] rfl rfl (by kernel_rfl) (fun _ _ _ h => h) (Or.inl ⟨by rfl, ?_⟩) hHeld ?_ ?_
  rotate_left
  · rintro w' ⟨s0, s1, s2, s3, s4, s5⟩
    go_simp
    with_reducible rfl
  rotate_left
  · simp only [Act.put, List.setIfInBounds_toArray, List.set_cons_zero, List.set_cons_succ, i64_w, i32_w]
    rfl
  refine pure_ (i := 1) (N := (some 74)) (v := ?_) (a' := ?_) #[true, true, false, false, false, false] rfl rfl (by kernel_rfl) (fun _ _ _ h => h) (Or.inl ⟨by rfl, ?_⟩) ?_ ?_
  rotate_left
  · intro w'
    go_simp
    with_reducible rfl
  rotate_left
  · simp only [Act.put, List.setIfInBounds_toArray, List.set_cons_zero, List.set_cons_succ, i64_w, i32_w]
    rfl
  refine take_ (i := 2) (N := (some 75)) (v := ?_) (a' := ?_) #[true, true, true, false, false, false] rfl rfl (by kernel_rfl) (fun _ _ _ h => h) (Or.inl ⟨by rfl, ?_⟩) hHeld ?_ ?_
  rotate_left
  · rintro w' ⟨s0, s1, s2, s3, s4, s5⟩
    go_simp
    with_reducible rfl
  rotate_left
  · simp only [Act.put, List.setIfInBounds_toArray, List.set_cons_zero, List.set_cons_succ, i64_w, i32_w]
    rfl
  refine one_ (i := 3) (N := none) #[true, true, true, true, false, false] rfl rfl (by kernel_rfl) (by decide) (fun K hK => ?_)
  obtain ⟨r0, r1, r2, r3, r4, r5⟩ := froz F.out.h6
  obtain ⟨s0, s1, s2, s3, s4, s5⟩ := p6_cells F.out.h6
  refine skip_ (w1 := ?_) (by rfl) rfl ?_ ?_
  rotate_left
  · go_simp
    rfl
  clear r0 r1 r2 r3 r4 r5 s0 s1 s2 s3 s4 s5
  have FD := Aside0.mk (F.out.done (i : Int) (e : Int) (e : Int) ((e : Int) + 1) (((e : Int) + 1) + 1) (((e : Int) + 1) + 1))
  refine hK.out _ _ (F.out.done9 _ _ _ _ _ _) (fun hHeld => ?_)
  clear hK K
  refine pure_ (i := 4) (N := (some 7)) (v := ?_) (a' := ?_) #[true, true, true, true, true, false] rfl rfl (by kernel_rfl) (fun _ _ _ h => h) (Or.inl ⟨by rfl, ?_⟩) ?_ ?_
  rotate_left
  · intro w'
    go_simp
    with_reducible rfl
  rotate_left
  · simp only [Act.put, List.setIfInBounds_toArray, List.set_cons_zero, List.set_cons_succ, i64_w, i32_w]
    rfl
  refine pure_ (i := 5) (N := (some 8)) (v := ?_) (a' := ?_) #[true, true, true, true, true, true] rfl rfl (by kernel_rfl) (fun _ _ _ h => h) (Or.inl ⟨by rfl, ?_⟩) ?_ ?_
  rotate_left
  · intro w'
    go_simp
    with_reducible rfl
  rotate_left
  · simp only [Act.put, List.setIfInBounds_toArray, List.set_cons_zero, List.set_cons_succ, i64_w, i32_w]
    rfl
  refine done_ (by kernel_rfl) ?_
  try go_wp2
  refine bodyPost_ret (results_ctt rfl _ _ g6 66 #[.int .i64 (i : Int), .int .i64 (e : Int), .int .i64 (e : Int), .int .i64 ((e : Int) + 1), .int .i64 (((e : Int) + 1) + 1), .int .i64 (((e : Int) + 1) + 1)] (0, 0) _ rfl FD.out.1 Try.underlying66 rfl (by kernel_rfl)) rfl ?_
  exact ⟨rfl, FD.out.2⟩
set_option maxHeartbeats 4000000 in
set_option maxRecDepth 100000 in
theorem tk_t1m (s : ByteArray) (i : Nat) (e : Nat) (hs : s.size ≤ 1048576) (hi : i ≤ s.size) (hd : dg s i = e) (hne : e ≠ i) (n2 : e < s.size) (m2 : bt s (e : Int) = 42)  (n3 : (e + 1) < s.size) (m3 : bt s ((e : Int) + 1) = 45) (t : Nat) (h5 : dg s ((e + 1) + 1) = t) (h6 : t ≠ ((e + 1) + 1)) (w : World) :
    Calls Try.prog 38 #[.string s, .int .i64 (i : Int), .bool true] w fun en w' => en = .returned (.tuple #[.agg #[.int .i64 (i : Int), .int .i64 (e : Int), .int .i64 (e : Int), .int .i64 ((e : Int) + 1), .int .i64 (((e : Int) + 1) + 1), .int .i64 (t : Int)], .int .i64 (t : Int), .int .i64 0]) ∧ Below w.heap.size w w' := by
  have hu := Try.underlying66
  have HB := Aside0.mk (Below.refl w.heap.size w)
  have D1 : Aside0 (vivariumref04_digits.f (s.size + 1) s (i : Int) = some (e : Int)) := ⟨by rw [digits_f s hs i hi, hd]⟩
  have b1 : ((e : Int) == (i : Int)) = false := by simp only [beq_eq_false_iff_ne, ne_eq]; omega
  have hle : e ≤ s.size := by rw [← hd]; exact dg_le hi
  have b2 : decide ((e : Int) < (s.size : Int)) = true := decide_eq_true (by omega)
  have p2 : ((e : Int) < (s.size : Int)) = True := eq_true (by omega)
  have z2 : ((0 : Int) ≤ (e : Int)) = True := eq_true (by omega)
  have x2 : ∀ h : e < s.size, ((s[e]'h).toNat : Int) = bt s (e : Int) := bt_at s (e : Int)
  have y2 : (bt s (e : Int) == 42) = true := by rw [m2]; rfl
  have b3 : decide (((e : Int) + 1) < (s.size : Int)) = true := decide_eq_true (by omega)
  have p3 : (((e : Int) + 1) < (s.size : Int)) = True := eq_true (by omega)
  have z3 : ((0 : Int) ≤ ((e : Int) + 1)) = True := eq_true (by omega)
  have x3 : ∀ h : e + 1 < s.size, ((s[e + 1]'h).toNat : Int) = bt s ((e : Int) + 1) := btN s (e + 1) _ (by omega)
  have y3 : (bt s ((e : Int) + 1) == 43) = false := by rw [m3]; rfl
  have y4 : (bt s ((e : Int) + 1) == 45) = true := by rw [m3]; rfl
  have D2 : Aside0 (vivariumref04_digits.f (s.size + 1) s (((e : Int) + 1) + 1) = some (t : Int)) := ⟨by have h_ := digits_f s hs ((e + 1) + 1) (by omega); rw [h5] at h_; exact h_⟩
  have b5 : ((t : Int) == (((e : Int) + 1) + 1)) = false := by simp only [beq_eq_false_iff_ne, ne_eq]; omega
  (try clear hd); (try clear m2); (try clear m3); (try clear h5); (try clear hne); (try clear h6)
  go_enter Try.func38, Try.ntmps38
  go_wp2_with (first | ((with_reducible refine gate_dst (N := 6) rfl ?_); refine box_event ?hg (N := 6) ?hd (cs := #[.int .i64 0, .int .i64 0, .int .i64 0, .int .i64 0, .int .i64 0, .int .i64 0]) (t := 66) ?hr ?_; (case hd => rfl); (case hg => rfl); (case hr => first | (go_simp; done) | (go_simp; rfl)); intro g6 hg6 wg6 hbox hb; have G6 := Aside0.mk (Nat.le_of_eq hg6.symm); have H6 := Aside0.mk hbox; replace HB := Aside0.mk (below_step HB.out hb); clear hb hbox hg6) | ((with_reducible refine gate_dst (N := 9) rfl ?_); refine box_event ?hg (N := 9) ?hd (cs := #[.int .i64 0, .int .i64 0, .int .i64 0, .int .i64 0, .int .i64 0, .int .i64 0]) (t := 66) ?hr ?_; (case hd => rfl); (case hg => rfl); (case hr => first | (go_simp; done) | (go_simp; rfl)); intro g9 hg9 wg9 hbox hb; have G9 := Aside0.mk (show w.heap.size ≤ g9 by rw [hg9]; exact HB.out.size); have N69 := Aside0.mk (show g6 ≠ g9 by rw [hg9]; exact Nat.ne_of_lt (blk_lt H6.out)); have F : Aside0 (TF w wg9 g6 g9 0 0 0 0 0 0) := ⟨⟨below_step HB.out hb, blk_below H6.out hb, hbox, G6.out, G9.out, N69.out⟩⟩; clear hb hbox hg9 H6 HB; obtain ⟨tc0, tc1, tc2, tc3, tc4, tc5⟩ := p6_cells F.out.h9) | ((with_reducible refine gate_store (t := 66) (p := 9) (v := .tmp 11) rfl ?_); obtain ⟨r0, r1, r2, r3, r4, r5⟩ := froz F.out.h9; refine store_event (w1 := ?wwwa) ?hgwa rfl rfl ?hrwa ?_; (case hgwa => rfl); (case hrwa => go_simp; rfl); intro wa hw; clear r0 r1 r2 r3 r4 r5; (try clear tc0 tc1 tc2 tc3 tc4 tc5); have hF_ : TF w wa g6 g9 (i : Int) 0 (-1) (-1) 0 0 := (by rw [hw]; exact ((((((F.out.set 0 (.int .i64 (i : Int)) rfl).set 1 (.int .i64 0) rfl).set 2 (.int .i64 (-1)) rfl).set 3 (.int .i64 (-1)) rfl).set 4 (.int .i64 0) rfl).set 5 (.int .i64 0) rfl)); replace F := Aside0.mk hF_; clear hF_ hw; obtain ⟨tc0, tc1, tc2, tc3, tc4, tc5⟩ := p6_cells F.out.h9) | (go_at_call 41; (with_reducible refine (vivariumref04_digits.calls (s.size + 1) s (i : Int) (e : Int) _ D1.out).mono ?_); rintro en_ wb ⟨rfl, nd, rfl⟩; (try clear tc0 tc1 tc2 tc3 tc4 tc5); replace F := Aside0.mk (F.out.drewN nd); generalize World.drewN _ nd = wb at F ⊢; obtain ⟨tc0, tc1, tc2, tc3, tc4, tc5⟩ := p6_cells F.out.h9) | ((with_reducible refine gate_store (t := 3) (p := 15) (v := .tmp 14) rfl ?_); obtain ⟨r0, r1, r2, r3, r4, r5⟩ := froz F.out.h9; refine store_event (w1 := ?wwwc) ?hgwc rfl rfl ?hrwc ?_; (case hgwc => rfl); (case hrwc => go_simp; rfl); intro wc hw; clear r0 r1 r2 r3 r4 r5; (try clear tc0 tc1 tc2 tc3 tc4 tc5); have hF_ : TF w wc g6 g9 (i : Int) (e : Int) (-1) (-1) 0 0 := (by rw [hw]; exact (F.out.set 1 (.int .i64 (e : Int)) rfl)); replace F := Aside0.mk hF_; clear hF_ hw; obtain ⟨tc0, tc1, tc2, tc3, tc4, tc5⟩ := p6_cells F.out.h9) | ((with_reducible refine gate_store (t := 3) (p := 39) (v := .tmp 38) rfl ?_); obtain ⟨r0, r1, r2, r3, r4, r5⟩ := froz F.out.h9; refine store_event (w1 := ?wwwd) ?hgwd rfl rfl ?hrwd ?_; (case hgwd => rfl); (case hrwd => go_simp; rfl); intro wd hw; clear r0 r1 r2 r3 r4 r5; (try clear tc0 tc1 tc2 tc3 tc4 tc5); have hF_ : TF w wd g6 g9 (i : Int) (e : Int) (e : Int) (-1) 0 0 := (by rw [hw]; exact (F.out.set 2 (.int .i64 (e : Int)) rfl)); replace F := Aside0.mk hF_; clear hF_ hw; obtain ⟨tc0, tc1, tc2, tc3, tc4, tc5⟩ := p6_cells F.out.h9) | ((with_reducible refine gate_store (t := 3) (p := 59) (v := .tmp 58) rfl ?_); obtain ⟨r0, r1, r2, r3, r4, r5⟩ := froz F.out.h9; refine store_event (w1 := ?wwwe) ?hgwe rfl rfl ?hrwe ?_; (case hgwe => rfl); (case hrwe => go_simp; rfl); intro we hw; clear r0 r1 r2 r3 r4 r5; (try clear tc0 tc1 tc2 tc3 tc4 tc5); have hF_ : TF w we g6 g9 (i : Int) (e : Int) (e : Int) ((e : Int) + 1) 0 0 := (by rw [hw]; exact (F.out.set 3 (.int .i64 ((e : Int) + 1)) rfl)); replace F := Aside0.mk hF_; clear hF_ hw; obtain ⟨tc0, tc1, tc2, tc3, tc4, tc5⟩ := p6_cells F.out.h9) | ((with_reducible refine gate_store (t := 3) (p := 62) (v := .tmp 61) rfl ?_); obtain ⟨r0, r1, r2, r3, r4, r5⟩ := froz F.out.h9; refine store_event (w1 := ?wwwf) ?hgwf rfl rfl ?hrwf ?_; (case hgwf => rfl); (case hrwf => go_simp; rfl); intro wf hw; clear r0 r1 r2 r3 r4 r5; (try clear tc0 tc1 tc2 tc3 tc4 tc5); have hF_ : TF w wf g6 g9 (i : Int) (e : Int) (e : Int) ((e : Int) + 1) (((e : Int) + 1) + 1) 0 := (by rw [hw]; exact (F.out.set 4 (.int .i64 (((e : Int) + 1) + 1)) rfl)); replace F := Aside0.mk hF_; clear hF_ hw; obtain ⟨tc0, tc1, tc2, tc3, tc4, tc5⟩ := p6_cells F.out.h9) | (go_at_call 41; (with_reducible refine (vivariumref04_digits.calls (s.size + 1) s (((e : Int) + 1) + 1) (t : Int) _ D2.out).mono ?_); rintro en_ wg ⟨rfl, nd, rfl⟩; (try clear tc0 tc1 tc2 tc3 tc4 tc5); replace F := Aside0.mk (F.out.drewN nd); generalize World.drewN _ nd = wg at F ⊢; obtain ⟨tc0, tc1, tc2, tc3, tc4, tc5⟩ := p6_cells F.out.h9) | ((with_reducible refine gate_store (t := 3) (p := 67) (v := .tmp 66) rfl ?_); obtain ⟨r0, r1, r2, r3, r4, r5⟩ := froz F.out.h9; refine store_event (w1 := ?wwwh) ?hgwh rfl rfl ?hrwh ?_; (case hgwh => rfl); (case hrwh => go_simp; rfl); intro wh hw; clear r0 r1 r2 r3 r4 r5; (try clear tc0 tc1 tc2 tc3 tc4 tc5); have hF_ : TF w wh g6 g9 (i : Int) (e : Int) (e : Int) ((e : Int) + 1) (((e : Int) + 1) + 1) (t : Int) := (by rw [hw]; exact (F.out.set 5 (.int .i64 (t : Int)) rfl)); replace F := Aside0.mk hF_; clear hF_ hw; obtain ⟨tc0, tc1, tc2, tc3, tc4, tc5⟩ := p6_cells F.out.h9) | ((with_reducible refine gate_store (t := 66) (p := 6) (v := .tmp 78) rfl ?_); obtain ⟨r0, r1, r2, r3, r4, r5⟩ := froz F.out.h6; obtain ⟨s0, s1, s2, s3, s4, s5⟩ := p6_cells F.out.h6; refine store_event (w1 := ?wwwz) ?hgwz rfl rfl ?hrwz ?_; (case hgwz => rfl); (case hrwz => go_simp; rfl); intro wz hw; clear r0 r1 r2 r3 r4 r5 s0 s1 s2 s3 s4 s5; (try clear tc0 tc1 tc2 tc3 tc4 tc5); have hD := F.out.done (i : Int) (e : Int) (e : Int) ((e : Int) + 1) (((e : Int) + 1) + 1) (t : Int); rw [← hw] at hD; have FD := Aside0.mk hD; clear hD hw F))
  refine bodyPost_ret (results_ctt rfl _ _ g6 66 #[.int .i64 (i : Int), .int .i64 (e : Int), .int .i64 (e : Int), .int .i64 ((e : Int) + 1), .int .i64 (((e : Int) + 1) + 1), .int .i64 (t : Int)] (0, 0) _ rfl FD.out.1 Try.underlying66 rfl (by kernel_rfl)) rfl ?_
  exact ⟨rfl, FD.out.2⟩
set_option maxHeartbeats 4000000 in
set_option maxRecDepth 100000 in
theorem tk_f1m (s : ByteArray) (i : Nat) (e : Nat) (hs : s.size ≤ 1048576) (hi : i ≤ s.size) (hd : dg s i = e) (hne : e ≠ i) (n2 : e < s.size) (m2 : bt s (e : Int) = 42)  (n3 : (e + 1) < s.size) (m3 : bt s ((e : Int) + 1) = 45) (h5 : dg s ((e + 1) + 1) = ((e + 1) + 1)) (w : World) :
    Calls Try.prog 38 #[.string s, .int .i64 (i : Int), .bool true] w fun en w' => en = .returned (.tuple #[.agg #[.int .i64 (i : Int), .int .i64 (e : Int), .int .i64 (e : Int), .int .i64 ((e : Int) + 1), .int .i64 (((e : Int) + 1) + 1), .int .i64 (((e : Int) + 1) + 1)], .int .i64 (((e : Int) + 1) + 1), .int .i64 43]) ∧ Below w.heap.size w w' := by
  have hu := Try.underlying66
  have HB := Aside0.mk (Below.refl w.heap.size w)
  have D1 : Aside0 (vivariumref04_digits.f (s.size + 1) s (i : Int) = some (e : Int)) := ⟨by rw [digits_f s hs i hi, hd]⟩
  have b1 : ((e : Int) == (i : Int)) = false := by simp only [beq_eq_false_iff_ne, ne_eq]; omega
  have hle : e ≤ s.size := by rw [← hd]; exact dg_le hi
  have b2 : decide ((e : Int) < (s.size : Int)) = true := decide_eq_true (by omega)
  have p2 : ((e : Int) < (s.size : Int)) = True := eq_true (by omega)
  have z2 : ((0 : Int) ≤ (e : Int)) = True := eq_true (by omega)
  have x2 : ∀ h : e < s.size, ((s[e]'h).toNat : Int) = bt s (e : Int) := bt_at s (e : Int)
  have y2 : (bt s (e : Int) == 42) = true := by rw [m2]; rfl
  have b3 : decide (((e : Int) + 1) < (s.size : Int)) = true := decide_eq_true (by omega)
  have p3 : (((e : Int) + 1) < (s.size : Int)) = True := eq_true (by omega)
  have z3 : ((0 : Int) ≤ ((e : Int) + 1)) = True := eq_true (by omega)
  have x3 : ∀ h : e + 1 < s.size, ((s[e + 1]'h).toNat : Int) = bt s ((e : Int) + 1) := btN s (e + 1) _ (by omega)
  have y3 : (bt s ((e : Int) + 1) == 43) = false := by rw [m3]; rfl
  have y4 : (bt s ((e : Int) + 1) == 45) = true := by rw [m3]; rfl
  have D2 : Aside0 (vivariumref04_digits.f (s.size + 1) s (((e : Int) + 1) + 1) = some (((e : Int) + 1) + 1)) := ⟨by have h_ := digits_f s hs ((e + 1) + 1) (by omega); rw [h5] at h_; exact h_⟩
  have b5 : ((((e : Int) + 1) + 1) == (((e : Int) + 1) + 1)) = true := by simp
  (try clear hd); (try clear m2); (try clear m3); (try clear h5); (try clear hne); (try clear h6)
  go_enter Try.func38, Try.ntmps38
  go_upto_region 16 with (first | ((with_reducible refine gate_dst (N := 6) rfl ?_); refine box_event ?hg (N := 6) ?hd (cs := #[.int .i64 0, .int .i64 0, .int .i64 0, .int .i64 0, .int .i64 0, .int .i64 0]) (t := 66) ?hr ?_; (case hd => rfl); (case hg => rfl); (case hr => first | (go_simp; done) | (go_simp; rfl)); intro g6 hg6 wg6 hbox hb; have G6 := Aside0.mk (Nat.le_of_eq hg6.symm); have H6 := Aside0.mk hbox; replace HB := Aside0.mk (below_step HB.out hb); clear hb hbox hg6) | ((with_reducible refine gate_dst (N := 9) rfl ?_); refine box_event ?hg (N := 9) ?hd (cs := #[.int .i64 0, .int .i64 0, .int .i64 0, .int .i64 0, .int .i64 0, .int .i64 0]) (t := 66) ?hr ?_; (case hd => rfl); (case hg => rfl); (case hr => first | (go_simp; done) | (go_simp; rfl)); intro g9 hg9 wg9 hbox hb; have G9 := Aside0.mk (show w.heap.size ≤ g9 by rw [hg9]; exact HB.out.size); have N69 := Aside0.mk (show g6 ≠ g9 by rw [hg9]; exact Nat.ne_of_lt (blk_lt H6.out)); have F : Aside0 (TF w wg9 g6 g9 0 0 0 0 0 0) := ⟨⟨below_step HB.out hb, blk_below H6.out hb, hbox, G6.out, G9.out, N69.out⟩⟩; clear hb hbox hg9 H6 HB; obtain ⟨tc0, tc1, tc2, tc3, tc4, tc5⟩ := p6_cells F.out.h9) | ((with_reducible refine gate_store (t := 66) (p := 9) (v := .tmp 11) rfl ?_); obtain ⟨r0, r1, r2, r3, r4, r5⟩ := froz F.out.h9; refine store_event (w1 := ?wwwa) ?hgwa rfl rfl ?hrwa ?_; (case hgwa => rfl); (case hrwa => go_simp; rfl); intro wa hw; clear r0 r1 r2 r3 r4 r5; (try clear tc0 tc1 tc2 tc3 tc4 tc5); have hF_ : TF w wa g6 g9 (i : Int) 0 (-1) (-1) 0 0 := (by rw [hw]; exact ((((((F.out.set 0 (.int .i64 (i : Int)) rfl).set 1 (.int .i64 0) rfl).set 2 (.int .i64 (-1)) rfl).set 3 (.int .i64 (-1)) rfl).set 4 (.int .i64 0) rfl).set 5 (.int .i64 0) rfl)); replace F := Aside0.mk hF_; clear hF_ hw; obtain ⟨tc0, tc1, tc2, tc3, tc4, tc5⟩ := p6_cells F.out.h9) | (go_at_call 41; (with_reducible refine (vivariumref04_digits.calls (s.size + 1) s (i : Int) (e : Int) _ D1.out).mono ?_); rintro en_ wb ⟨rfl, nd, rfl⟩; (try clear tc0 tc1 tc2 tc3 tc4 tc5); replace F := Aside0.mk (F.out.drewN nd); generalize World.drewN _ nd = wb at F ⊢; obtain ⟨tc0, tc1, tc2, tc3, tc4, tc5⟩ := p6_cells F.out.h9) | ((with_reducible refine gate_store (t := 3) (p := 15) (v := .tmp 14) rfl ?_); obtain ⟨r0, r1, r2, r3, r4, r5⟩ := froz F.out.h9; refine store_event (w1 := ?wwwc) ?hgwc rfl rfl ?hrwc ?_; (case hgwc => rfl); (case hrwc => go_simp; rfl); intro wc hw; clear r0 r1 r2 r3 r4 r5; (try clear tc0 tc1 tc2 tc3 tc4 tc5); have hF_ : TF w wc g6 g9 (i : Int) (e : Int) (-1) (-1) 0 0 := (by rw [hw]; exact (F.out.set 1 (.int .i64 (e : Int)) rfl)); replace F := Aside0.mk hF_; clear hF_ hw; obtain ⟨tc0, tc1, tc2, tc3, tc4, tc5⟩ := p6_cells F.out.h9) | ((with_reducible refine gate_store (t := 3) (p := 39) (v := .tmp 38) rfl ?_); obtain ⟨r0, r1, r2, r3, r4, r5⟩ := froz F.out.h9; refine store_event (w1 := ?wwwd) ?hgwd rfl rfl ?hrwd ?_; (case hgwd => rfl); (case hrwd => go_simp; rfl); intro wd hw; clear r0 r1 r2 r3 r4 r5; (try clear tc0 tc1 tc2 tc3 tc4 tc5); have hF_ : TF w wd g6 g9 (i : Int) (e : Int) (e : Int) (-1) 0 0 := (by rw [hw]; exact (F.out.set 2 (.int .i64 (e : Int)) rfl)); replace F := Aside0.mk hF_; clear hF_ hw; obtain ⟨tc0, tc1, tc2, tc3, tc4, tc5⟩ := p6_cells F.out.h9) | ((with_reducible refine gate_store (t := 3) (p := 59) (v := .tmp 58) rfl ?_); obtain ⟨r0, r1, r2, r3, r4, r5⟩ := froz F.out.h9; refine store_event (w1 := ?wwwe) ?hgwe rfl rfl ?hrwe ?_; (case hgwe => rfl); (case hrwe => go_simp; rfl); intro we hw; clear r0 r1 r2 r3 r4 r5; (try clear tc0 tc1 tc2 tc3 tc4 tc5); have hF_ : TF w we g6 g9 (i : Int) (e : Int) (e : Int) ((e : Int) + 1) 0 0 := (by rw [hw]; exact (F.out.set 3 (.int .i64 ((e : Int) + 1)) rfl)); replace F := Aside0.mk hF_; clear hF_ hw; obtain ⟨tc0, tc1, tc2, tc3, tc4, tc5⟩ := p6_cells F.out.h9) | ((with_reducible refine gate_store (t := 3) (p := 62) (v := .tmp 61) rfl ?_); obtain ⟨r0, r1, r2, r3, r4, r5⟩ := froz F.out.h9; refine store_event (w1 := ?wwwf) ?hgwf rfl rfl ?hrwf ?_; (case hgwf => rfl); (case hrwf => go_simp; rfl); intro wf hw; clear r0 r1 r2 r3 r4 r5; (try clear tc0 tc1 tc2 tc3 tc4 tc5); have hF_ : TF w wf g6 g9 (i : Int) (e : Int) (e : Int) ((e : Int) + 1) (((e : Int) + 1) + 1) 0 := (by rw [hw]; exact (F.out.set 4 (.int .i64 (((e : Int) + 1) + 1)) rfl)); replace F := Aside0.mk hF_; clear hF_ hw; obtain ⟨tc0, tc1, tc2, tc3, tc4, tc5⟩ := p6_cells F.out.h9) | (go_at_call 41; (with_reducible refine (vivariumref04_digits.calls (s.size + 1) s (((e : Int) + 1) + 1) (((e : Int) + 1) + 1) _ D2.out).mono ?_); rintro en_ wg ⟨rfl, nd, rfl⟩; (try clear tc0 tc1 tc2 tc3 tc4 tc5); replace F := Aside0.mk (F.out.drewN nd); generalize World.drewN _ nd = wg at F ⊢; obtain ⟨tc0, tc1, tc2, tc3, tc4, tc5⟩ := p6_cells F.out.h9) | ((with_reducible refine gate_store (t := 3) (p := 67) (v := .tmp 66) rfl ?_); obtain ⟨r0, r1, r2, r3, r4, r5⟩ := froz F.out.h9; refine store_event (w1 := ?wwwh) ?hgwh rfl rfl ?hrwh ?_; (case hgwh => rfl); (case hrwh => go_simp; rfl); intro wh hw; clear r0 r1 r2 r3 r4 r5; (try clear tc0 tc1 tc2 tc3 tc4 tc5); have hF_ : TF w wh g6 g9 (i : Int) (e : Int) (e : Int) ((e : Int) + 1) (((e : Int) + 1) + 1) (((e : Int) + 1) + 1) := (by rw [hw]; exact (F.out.set 5 (.int .i64 (((e : Int) + 1) + 1)) rfl)); replace F := Aside0.mk hF_; clear hF_ hw; obtain ⟨tc0, tc1, tc2, tc3, tc4, tc5⟩ := p6_cells F.out.h9))
  (try clear tc0 tc1 tc2 tc3 tc4 tc5)
  refine start_ (n := 6) (S := fun w' => w'.cell? ⟨g9, 0, none⟩ = some (.int .i64 (i : Int)) ∧ w'.cell? ⟨g9, 1, none⟩ = some (.int .i64 (e : Int)) ∧ w'.cell? ⟨g9, 2, none⟩ = some (.int .i64 (e : Int)) ∧ w'.cell? ⟨g9, 3, none⟩ = some (.int .i64 ((e : Int) + 1)) ∧ w'.cell? ⟨g9, 4, none⟩ = some (.int .i64 (((e : Int) + 1) + 1)) ∧ w'.cell? ⟨g9, 5, none⟩ = some (.int .i64 (((e : Int) + 1) + 1))) (ds := []) #[false, false, false, false, false, false] (by kernel_rfl) rfl rfl (p6_cells F.out.h9) (fun hHeld => ?_)
  replace F := Aside0.mk F.out.drew
  generalize wh.drew = wx at F hHeld ⊢
  refine take_ (i := 0) (N := (some 73)) (v := ?_) (a' := ?_) #[true, false, false, false, false, false] rfl rfl (by kernel_rfl) (fun _ _ _ h => h) (Or.inl ⟨by rfl, ?_⟩) hHeld ?_ ?_
  rotate_left
  · rintro w' ⟨s0, s1, s2, s3, s4, s5⟩
    go_simp
    with_reducible rfl
  rotate_left
  · simp only [Act.put, List.setIfInBounds_toArray, List.set_cons_zero, List.set_cons_succ, i64_w, i32_w]
    rfl
  refine pure_ (i := 1) (N := (some 74)) (v := ?_) (a' := ?_) #[true, true, false, false, false, false] rfl rfl (by kernel_rfl) (fun _ _ _ h => h) (Or.inl ⟨by rfl, ?_⟩) ?_ ?_
  rotate_left
  · intro w'
    go_simp
    with_reducible rfl
  rotate_left
  · simp only [Act.put, List.setIfInBounds_toArray, List.set_cons_zero, List.set_cons_succ, i64_w, i32_w]
    rfl
  refine take_ (i := 2) (N := (some 75)) (v := ?_) (a' := ?_) #[true, true, true, false, false, false] rfl rfl (by kernel_rfl) (fun _ _ _ h => h) (Or.inl ⟨by rfl, ?_⟩) hHeld ?_ ?_
  rotate_left
  · rintro w' ⟨s0, s1, s2, s3, s4, s5⟩
    go_simp
    with_reducible rfl
  rotate_left
  · simp only [Act.put, List.setIfInBounds_toArray, List.set_cons_zero, List.set_cons_succ, i64_w, i32_w]
    rfl
  refine one_ (i := 3) (N := none) #[true, true, true, true, false, false] rfl rfl (by kernel_rfl) (by decide) (fun K hK => ?_)
  obtain ⟨r0, r1, r2, r3, r4, r5⟩ := froz F.out.h6
  obtain ⟨s0, s1, s2, s3, s4, s5⟩ := p6_cells F.out.h6
  refine skip_ (w1 := ?_) (by rfl) rfl ?_ ?_
  rotate_left
  · go_simp
    rfl
  clear r0 r1 r2 r3 r4 r5 s0 s1 s2 s3 s4 s5
  have FD := Aside0.mk (F.out.done (i : Int) (e : Int) (e : Int) ((e : Int) + 1) (((e : Int) + 1) + 1) (((e : Int) + 1) + 1))
  refine hK.out _ _ (F.out.done9 _ _ _ _ _ _) (fun hHeld => ?_)
  clear hK K
  refine pure_ (i := 4) (N := (some 7)) (v := ?_) (a' := ?_) #[true, true, true, true, true, false] rfl rfl (by kernel_rfl) (fun _ _ _ h => h) (Or.inl ⟨by rfl, ?_⟩) ?_ ?_
  rotate_left
  · intro w'
    go_simp
    with_reducible rfl
  rotate_left
  · simp only [Act.put, List.setIfInBounds_toArray, List.set_cons_zero, List.set_cons_succ, i64_w, i32_w]
    rfl
  refine pure_ (i := 5) (N := (some 8)) (v := ?_) (a' := ?_) #[true, true, true, true, true, true] rfl rfl (by kernel_rfl) (fun _ _ _ h => h) (Or.inl ⟨by rfl, ?_⟩) ?_ ?_
  rotate_left
  · intro w'
    go_simp
    with_reducible rfl
  rotate_left
  · simp only [Act.put, List.setIfInBounds_toArray, List.set_cons_zero, List.set_cons_succ, i64_w, i32_w]
    rfl
  refine done_ (by kernel_rfl) ?_
  try go_wp2
  refine bodyPost_ret (results_ctt rfl _ _ g6 66 #[.int .i64 (i : Int), .int .i64 (e : Int), .int .i64 (e : Int), .int .i64 ((e : Int) + 1), .int .i64 (((e : Int) + 1) + 1), .int .i64 (((e : Int) + 1) + 1)] (0, 0) _ rfl FD.out.1 Try.underlying66 rfl (by kernel_rfl)) rfl ?_
  exact ⟨rfl, FD.out.2⟩
end Go.Proofs.Ytmcidodpnhkdfaa.PF
