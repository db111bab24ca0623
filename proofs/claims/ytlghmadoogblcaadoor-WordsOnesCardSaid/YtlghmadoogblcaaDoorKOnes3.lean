/- WordsOnes proved, the tied card: for every row and every number, how many ones a row has and their places are the document's, also where the going through is left early, gone through again, and when the row has been written over; the row stays. The library's table of the places of the lowest ones reads as its own text lays it (tied). -/
import Derived.Test.YtlghmadoogblcaaDoorKOnes2
section
namespace Go.Proofs.YtlghmadoogblcaaDoor.PS
open Go.RowKit Go.Proofs.YtlghmadoogblcaaDoorW.PrintWords Go.Proofs.YtlghmadoogblcaaDoorW.PrintLast Go.Proofs.YtlghmadoogblcaaDoorW.PrintMore
attribute [local go_sem] max2_int min2_int max_two min_two max_three min_three max_four min_four   -- for this text's walks alone
set_option linter.unusedVariables false
set_option linter.unusedSimpArgs false
mutual
def vivariumref02_Same.j0 : Nat → Bool → Int → List Int → Int → List Int → Option (Bool)
  | 0, _, _, _, _, _ => none
  | k + 1, x19, x102000, x102001, x103000, x103001 => if x19 = true then (some false) else (vivariumref02_Same.l0 k 0 x102000 x102001 x103000 x103001)
def vivariumref02_Same.l0 : Nat → Int → Int → List Int → Int → List Int → Option (Bool)
  | 0, _, _, _, _, _ => none
  | k + 1, x5, x102000, x102001, x103000, x103001 => if x5 < (x102001.length : Int) then (if 0 ≤ x5 then (if x5 < (x103001.length : Int) then (if (rd x102001 x5) = (rd x103001 x5) then (vivariumref02_Same.l0 k (wrap64 (x5 + 1)) x102000 x102001 x103000 x103001) else (some false)) else (none)) else (none)) else (some true)
end
def vivariumref02_Same.f (k : Nat) (a0_0 : Int) (l0_1 : List Int) (a1_0 : Int) (l1_1 : List Int) : Option (Bool) := if a0_0 = a1_0 then (vivariumref02_Same.j0 k ((l0_1.length : Int) != (l1_1.length : Int)) a0_0 l0_1 a1_0 l1_1) else (vivariumref02_Same.j0 k true a0_0 l0_1 a1_0 l1_1)
set_option maxHeartbeats 8000000 in
set_option maxRecDepth 100000 in
theorem vivariumref02_Same.calls (k : Nat) (a0_0 : Int) (A0_1 : Option Addr) (c0_1 : Nat) (l0_1 : List Int) (a1_0 : Int) (A1_1 : Option Addr) (c1_1 : Nat) (l1_1 : List Int) (r : Bool) (w : World) (hr0_1 : Kd.C (Kd.int .u64) w A0_1 l0_1.length l0_1) (hc0_1 : l0_1.length ≤ c0_1) (hr1_1 : Kd.C (Kd.int .u64) w A1_1 l1_1.length l1_1) (hc1_1 : l1_1.length ≤ c1_1) (h : vivariumref02_Same.f k a0_0 l0_1 a1_0 l1_1 = some r) :
    Calls Tryd.prog 36 #[.agg #[.int .i64 a0_0, .slice A0_1 l0_1.length c0_1], .agg #[.int .i64 a1_0, .slice A1_1 l1_1.length c1_1]] w fun e w' => e = .returned (.bool r) ∧ Below w.heap.size w w' := by
  have hu31 := Tryd.underlying24
  have HR0_1 := Aside0.mk hr0_1
  have HC0_1 := Aside0.mk hc0_1
  clear hr0_1 hc0_1
  have HR1_1 := Aside0.mk hr1_1
  have HC1_1 := Aside0.mk hc1_1
  clear hr1_1 hc1_1
  have HB := Aside0.mk (Below.refl w.heap.size w)
  have H : (if a0_0 = a1_0 then (vivariumref02_Same.j0 k ((l0_1.length : Int) != (l1_1.length : Int)) a0_0 l0_1 a1_0 l1_1) else (vivariumref02_Same.j0 k true a0_0 l0_1 a1_0 l1_1)) = some r := h
  clear h
  have HC3 := Aside0.mk H
  clear H
  go_enter Tryd.func36, Tryd.ntmps36
  go_upto_region 1 with (first | ((with_reducible refine gate_dst (N := 2) rfl ?_); (try (refine gate_guard (by rfl) ?_; dsimp only)); refine box_event ?hg (N := 2) ?hd (cs := #[.int .i64 a0_0, .slice A0_1 l0_1.length c0_1]) (t := 24) ?hr ?_; (case hd => rfl); (case hg => rfl); (case hr => first | (go_simp; done) | (go_simp; rfl)); intro gb101 hg w4 hbox hb; have n0_ := Aside0.mk (below_step (by repeat (first | (with_reducible first | exact HB.out | apply below_alloc | apply pw_below_drewN | apply below_drew1) | exact HB.out)) hb); have n1_ := Aside0.mk (hbox); have n2_ := Aside0.mk ((by rw [hg]; exact (below_size (by repeat (first | (with_reducible first | exact HB.out | apply below_alloc | apply pw_below_drewN | apply below_drew1) | exact HB.out))) : w.heap.size ≤ gb101)); have n3_ := Aside0.mk ((by rw [hg]; exact (below_size (by repeat (first | (with_reducible first | exact HB.out | apply below_alloc | apply pw_below_drewN | apply below_drew1) | exact HB.out))) : w.heap.size ≤ gb101)); clear HB; have HB := n0_; have BK101 := n1_; have GW101 := n2_; have GE101 := n3_; clear n0_ n1_ n2_ n3_; clear hb hbox hg) | ((with_reducible refine gate_dst (N := 3) rfl ?_); (try (refine gate_guard (by rfl) ?_; dsimp only)); refine box_event ?hg (N := 3) ?hd (cs := #[.int .i64 a1_0, .slice A1_1 l1_1.length c1_1]) (t := 24) ?hr ?_; (case hd => rfl); (case hg => rfl); (case hr => first | (go_simp; done) | (go_simp; rfl)); intro gb102 hg w5 hbox hb; have n0_ := Aside0.mk (blk_below (g := gb101) (o := .cells #[.int .i64 a0_0, .slice A0_1 l0_1.length c0_1] 24 (0, 0)) (by (with_reducible repeat (first | refine blk_drewN ?_ _ | refine blk_drew ?_ | refine blk_alloc ?_ _)); exact BK101.out) hb); have n1_ := Aside0.mk (below_step (by repeat (first | (with_reducible first | exact HB.out | apply below_alloc | apply pw_below_drewN | apply below_drew1 | refine below_set ?_ GE101.out) | exact HB.out)) hb); have n2_ := Aside0.mk (hbox); have n3_ := Aside0.mk ((by rw [hg]; exact (below_size (by repeat (first | (with_reducible first | exact HB.out | apply below_alloc | apply pw_below_drewN | apply below_drew1 | refine below_set ?_ GE101.out) | exact HB.out))) : w.heap.size ≤ gb102)); have n4_ := Aside0.mk ((by rw [hg]; exact (below_size (by repeat (first | (with_reducible first | exact HB.out | apply below_alloc | apply pw_below_drewN | apply below_drew1 | refine below_set ?_ GE101.out) | exact HB.out))) : w.heap.size ≤ gb102)); have n5_ := Aside0.mk ((by rw [hg]; exact Nat.ne_of_lt (blk_lt (g := gb101) (o := .cells #[.int .i64 a0_0, .slice A0_1 l0_1.length c0_1] 24 (0, 0)) (by (with_reducible repeat (first | refine blk_drewN ?_ _ | refine blk_drew ?_ | refine blk_alloc ?_ _)); exact BK101.out)) : gb101 ≠ gb102)); have n6_ := Aside0.mk ((by rw [hg]; exact Nat.ne_of_gt (blk_lt (g := gb101) (o := .cells #[.int .i64 a0_0, .slice A0_1 l0_1.length c0_1] 24 (0, 0)) (by (with_reducible repeat (first | refine blk_drewN ?_ _ | refine blk_drew ?_ | refine blk_alloc ?_ _)); exact BK101.out)) : gb102 ≠ gb101)); clear BK101; clear HB; have BK101 := n0_; have HB := n1_; have BK102 := n2_; have GW102 := n3_; have GE102 := n4_; have NB101_102 := n5_; have NB102_101 := n6_; clear n0_ n1_ n2_ n3_ n4_ n5_ n6_; clear hb hbox hg))
  repeat (go_quiet (first | ((with_reducible refine gate_dst (N := 2) rfl ?_); (try (refine gate_guard (by rfl) ?_; dsimp only)); refine box_event ?hg (N := 2) ?hd (cs := #[.int .i64 a0_0, .slice A0_1 l0_1.length c0_1]) (t := 24) ?hr ?_; (case hd => rfl); (case hg => rfl); (case hr => first | (go_simp; done) | (go_simp; rfl)); intro gb101 hg w4 hbox hb; have n0_ := Aside0.mk (below_step (by repeat (first | (with_reducible first | exact HB.out | apply below_alloc | apply pw_below_drewN | apply below_drew1) | exact HB.out)) hb); have n1_ := Aside0.mk (hbox); have n2_ := Aside0.mk ((by rw [hg]; exact (below_size (by repeat (first | (with_reducible first | exact HB.out | apply below_alloc | apply pw_below_drewN | apply below_drew1) | exact HB.out))) : w.heap.size ≤ gb101)); have n3_ := Aside0.mk ((by rw [hg]; exact (below_size (by repeat (first | (with_reducible first | exact HB.out | apply below_alloc | apply pw_below_drewN | apply below_drew1) | exact HB.out))) : w.heap.size ≤ gb101)); clear HB; have HB := n0_; have BK101 := n1_; have GW101 := n2_; have GE101 := n3_; clear n0_ n1_ n2_ n3_; clear hb hbox hg) | ((with_reducible refine gate_dst (N := 3) rfl ?_); (try (refine gate_guard (by rfl) ?_; dsimp only)); refine box_event ?hg (N := 3) ?hd (cs := #[.int .i64 a1_0, .slice A1_1 l1_1.length c1_1]) (t := 24) ?hr ?_; (case hd => rfl); (case hg => rfl); (case hr => first | (go_simp; done) | (go_simp; rfl)); intro gb102 hg w5 hbox hb; have n0_ := Aside0.mk (blk_below (g := gb101) (o := .cells #[.int .i64 a0_0, .slice A0_1 l0_1.length c0_1] 24 (0, 0)) (by (with_reducible repeat (first | refine blk_drewN ?_ _ | refine blk_drew ?_ | refine blk_alloc ?_ _)); exact BK101.out) hb); have n1_ := Aside0.mk (below_step (by repeat (first | (with_reducible first | exact HB.out | apply below_alloc | apply pw_below_drewN | apply below_drew1 | refine below_set ?_ GE101.out) | exact HB.out)) hb); have n2_ := Aside0.mk (hbox); have n3_ := Aside0.mk ((by rw [hg]; exact (below_size (by repeat (first | (with_reducible first | exact HB.out | apply below_alloc | apply pw_below_drewN | apply below_drew1 | refine below_set ?_ GE101.out) | exact HB.out))) : w.heap.size ≤ gb102)); have n4_ := Aside0.mk ((by rw [hg]; exact (below_size (by repeat (first | (with_reducible first | exact HB.out | apply below_alloc | apply pw_below_drewN | apply below_drew1 | refine below_set ?_ GE101.out) | exact HB.out))) : w.heap.size ≤ gb102)); have n5_ := Aside0.mk ((by rw [hg]; exact Nat.ne_of_lt (blk_lt (g := gb101) (o := .cells #[.int .i64 a0_0, .slice A0_1 l0_1.length c0_1] 24 (0, 0)) (by (with_reducible repeat (first | refine blk_drewN ?_ _ | refine blk_drew ?_ | refine blk_alloc ?_ _)); exact BK101.out)) : gb101 ≠ gb102)); have n6_ := Aside0.mk ((by rw [hg]; exact Nat.ne_of_gt (blk_lt (g := gb101) (o := .cells #[.int .i64 a0_0, .slice A0_1 l0_1.length c0_1] 24 (0, 0)) (by (with_reducible repeat (first | refine blk_drewN ?_ _ | refine blk_drew ?_ | refine blk_alloc ?_ _)); exact BK101.out)) : gb102 ≠ gb101)); clear BK101; clear HB; have BK101 := n0_; have HB := n1_; have BK102 := n2_; have GW102 := n3_; have GE102 := n4_; have NB101_102 := n5_; have NB102_101 := n6_; clear n0_ n1_ n2_ n3_ n4_ n5_ n6_; clear hb hbox hg)); go_upto_region 1 with (first | ((with_reducible refine gate_dst (N := 2) rfl ?_); (try (refine gate_guard (by rfl) ?_; dsimp only)); refine box_event ?hg (N := 2) ?hd (cs := #[.int .i64 a0_0, .slice A0_1 l0_1.length c0_1]) (t := 24) ?hr ?_; (case hd => rfl); (case hg => rfl); (case hr => first | (go_simp; done) | (go_simp; rfl)); intro gb101 hg w4 hbox hb; have n0_ := Aside0.mk (below_step (by repeat (first | (with_reducible first | exact HB.out | apply below_alloc | apply pw_below_drewN | apply below_drew1) | exact HB.out)) hb); have n1_ := Aside0.mk (hbox); have n2_ := Aside0.mk ((by rw [hg]; exact (below_size (by repeat (first | (with_reducible first | exact HB.out | apply below_alloc | apply pw_below_drewN | apply below_drew1) | exact HB.out))) : w.heap.size ≤ gb101)); have n3_ := Aside0.mk ((by rw [hg]; exact (below_size (by repeat (first | (with_reducible first | exact HB.out | apply below_alloc | apply pw_below_drewN | apply below_drew1) | exact HB.out))) : w.heap.size ≤ gb101)); clear HB; have HB := n0_; have BK101 := n1_; have GW101 := n2_; have GE101 := n3_; clear n0_ n1_ n2_ n3_; clear hb hbox hg) | ((with_reducible refine gate_dst (N := 3) rfl ?_); (try (refine gate_guard (by rfl) ?_; dsimp only)); refine box_event ?hg (N := 3) ?hd (cs := #[.int .i64 a1_0, .slice A1_1 l1_1.length c1_1]) (t := 24) ?hr ?_; (case hd => rfl); (case hg => rfl); (case hr => first | (go_simp; done) | (go_simp; rfl)); intro gb102 hg w5 hbox hb; have n0_ := Aside0.mk (blk_below (g := gb101) (o := .cells #[.int .i64 a0_0, .slice A0_1 l0_1.length c0_1] 24 (0, 0)) (by (with_reducible repeat (first | refine blk_drewN ?_ _ | refine blk_drew ?_ | refine blk_alloc ?_ _)); exact BK101.out) hb); have n1_ := Aside0.mk (below_step (by repeat (first | (with_reducible first | exact HB.out | apply below_alloc | apply pw_below_drewN | apply below_drew1 | refine below_set ?_ GE101.out) | exact HB.out)) hb); have n2_ := Aside0.mk (hbox); have n3_ := Aside0.mk ((by rw [hg]; exact (below_size (by repeat (first | (with_reducible first | exact HB.out | apply below_alloc | apply pw_below_drewN | apply below_drew1 | refine below_set ?_ GE101.out) | exact HB.out))) : w.heap.size ≤ gb102)); have n4_ := Aside0.mk ((by rw [hg]; exact (below_size (by repeat (first | (with_reducible first | exact HB.out | apply below_alloc | apply pw_below_drewN | apply below_drew1 | refine below_set ?_ GE101.out) | exact HB.out))) : w.heap.size ≤ gb102)); have n5_ := Aside0.mk ((by rw [hg]; exact Nat.ne_of_lt (blk_lt (g := gb101) (o := .cells #[.int .i64 a0_0, .slice A0_1 l0_1.length c0_1] 24 (0, 0)) (by (with_reducible repeat (first | refine blk_drewN ?_ _ | refine blk_drew ?_ | refine blk_alloc ?_ _)); exact BK101.out)) : gb101 ≠ gb102)); have n6_ := Aside0.mk ((by rw [hg]; exact Nat.ne_of_gt (blk_lt (g := gb101) (o := .cells #[.int .i64 a0_0, .slice A0_1 l0_1.length c0_1] 24 (0, 0)) (by (with_reducible repeat (first | refine blk_drewN ?_ _ | refine blk_drew ?_ | refine blk_alloc ?_ _)); exact BK101.out)) : gb102 ≠ gb101)); clear BK101; clear HB; have BK101 := n0_; have HB := n1_; have BK102 := n2_; have GW102 := n3_; have GE102 := n4_; have NB101_102 := n5_; have NB102_101 := n6_; clear n0_ n1_ n2_ n3_ n4_ n5_ n6_; clear hb hbox hg)))
  (try simp only [Act.put, List.setIfInBounds_toArray, List.set_cons_zero, List.set_cons_succ])
  go_cut [19] (fun v19 wc => ∃ (kq : Nat) (x19_2 : Bool), v19 = .bool x19_2 ∧ Aside0 (vivariumref02_Same.j0 kq x19_2 a0_0 l0_1 a1_0 l1_1 = some r) ∧ Aside0 (kq ≤ k) ∧ Aside0 (wc.heap[gb101]? = some (.cells #[.int .i64 a0_0, (.slice A0_1 l0_1.length c0_1)] 24 (0, 0))) ∧ Aside0 (wc.heap[gb102]? = some (.cells #[.int .i64 a1_0, (.slice A1_1 l1_1.length c1_1)] 24 (0, 0))) ∧ Aside0 (Below w.heap.size w wc))
  case first =>
    have H := HC3.out
    clear HC3
    by_cases c6 : a0_0 = a1_0
    · rw [if_pos c6] at H
      have c6b0 : (a0_0 == a1_0) = true := beq_iff_eq.mpr c6
      have c6b1 : (a0_0 != a1_0) = false := bne_eq_false_iff_eq.mpr c6
      clear c6
      (first | rw [c6b0] | (simp only [i64_w, i32_w]; rw [c6b0]) | skip)
      have H' := Aside0.mk H
      clear H
      have hnb7 := NB101_102.out
      have hnc7 := NB102_101.out
      have hcz8_0 : w5.cell? ⟨gb101, 0, none⟩ = some (.int .i64 a0_0) := (blk_cell BK101.out 0).trans rfl
      have hcz8_1 : w5.cell? ⟨gb101, 1, none⟩ = some (.slice A0_1 l0_1.length c0_1) := (blk_cell BK101.out 1).trans rfl
      have hfz8_0 := blk_frozen BK101.out 0
      have hfz8_1 := blk_frozen BK101.out 1
      have hcz9_0 : w5.cell? ⟨gb102, 0, none⟩ = some (.int .i64 a1_0) := (blk_cell BK102.out 0).trans rfl
      have hcz9_1 : w5.cell? ⟨gb102, 1, none⟩ = some (.slice A1_1 l1_1.length c1_1) := (blk_cell BK102.out 1).trans rfl
      have hfz9_0 := blk_frozen BK102.out 0
      have hfz9_1 := blk_frozen BK102.out 1
      go_wp2
      repeat (go_quiet (fail); try go_wp2)
      go_meet
      case rel => exact ⟨_, (((l0_1.length : Int) != (l1_1.length : Int))), (by first | rfl | (simp; done) | (simp [*]; done) | (simp [wrap64]; done)), H', ⟨by first | omega | exact Nat.le_refl _⟩, ⟨by (with_reducible repeat (first | refine blk_drewN ?_ _ | refine blk_drew ?_ | refine blk_alloc ?_ _)); exact BK101.out⟩, ⟨by (with_reducible repeat (first | refine blk_drewN ?_ _ | refine blk_drew ?_ | refine blk_alloc ?_ _)); exact BK102.out⟩, ⟨by repeat (first | (with_reducible first | exact HB.out | apply below_alloc | apply pw_below_drewN | apply below_drew1 | refine below_set ?_ GE101.out | refine below_set ?_ GE102.out) | exact HB.out)⟩⟩
    · rw [if_neg c6] at H
      have c6b0 : (a0_0 == a1_0) = false := beq_eq_false_iff_ne.mpr c6
      have c6b1 : (a0_0 != a1_0) = true := bne_iff_ne.mpr c6
      (first | rw [c6b0] | (simp only [i64_w, i32_w]; rw [c6b0]) | skip)
      have H' := Aside0.mk H
      clear H
      have hnb10 := NB101_102.out
      have hnc10 := NB102_101.out
      have hcz11_0 : w5.cell? ⟨gb101, 0, none⟩ = some (.int .i64 a0_0) := (blk_cell BK101.out 0).trans rfl
      have hcz11_1 : w5.cell? ⟨gb101, 1, none⟩ = some (.slice A0_1 l0_1.length c0_1) := (blk_cell BK101.out 1).trans rfl
      have hfz11_0 := blk_frozen BK101.out 0
      have hfz11_1 := blk_frozen BK101.out 1
      have hcz12_0 : w5.cell? ⟨gb102, 0, none⟩ = some (.int .i64 a1_0) := (blk_cell BK102.out 0).trans rfl
      have hcz12_1 : w5.cell? ⟨gb102, 1, none⟩ = some (.slice A1_1 l1_1.length c1_1) := (blk_cell BK102.out 1).trans rfl
      have hfz12_0 := blk_frozen BK102.out 0
      have hfz12_1 := blk_frozen BK102.out 1
      go_wp2
      repeat (go_quiet (fail); try go_wp2)
      go_meet
      case rel => exact ⟨_, (true), (by first | rfl | (simp; done) | (simp [*]; done) | (simp [wrap64]; done)), H', ⟨by first | omega | exact Nat.le_refl _⟩, ⟨by (with_reducible repeat (first | refine blk_drewN ?_ _ | refine blk_drew ?_ | refine blk_alloc ?_ _)); exact BK101.out⟩, ⟨by (with_reducible repeat (first | refine blk_drewN ?_ _ | refine blk_drew ?_ | refine blk_alloc ?_ _)); exact BK102.out⟩, ⟨by repeat (first | (with_reducible first | exact HB.out | apply below_alloc | apply pw_below_drewN | apply below_drew1 | refine below_set ?_ GE101.out | refine below_set ?_ GE102.out) | exact HB.out)⟩⟩
  case rest =>
    clear HC3
    try clear c1
    try clear p2
    try clear c4
    try clear c6
    try clear c6b0
    try clear c6b1
    try clear c7
    try clear c10
    try clear hcz11_0
    try clear hcz11_1
    try clear hcz12_0
    try clear hcz12_1
    try clear hcz8_0
    try clear hcz8_1
    try clear hcz9_0
    try clear hcz9_1
    try clear hfz11_0
    try clear hfz11_1
    try clear hfz12_0
    try clear hfz12_1
    try clear hfz8_0
    try clear hfz8_1
    try clear hfz9_0
    try clear hfz9_1
    obtain ⟨kq, x19_2, rfl, HA, HJ2, BK101, BK102, HB⟩ := hcut
    cases kq with
    | zero => exact absurd HA.out (by simp [vivariumref02_Same.j0])
    | succ kj2 =>
      have H := HA.out
      clear HA
      simp only [vivariumref02_Same.j0] at H
      by_cases c13 : x19_2 = true
      · subst c13
        have H1 : (some false) = some r := by rw [if_pos rfl] at H; exact H
        clear H
        have H := H1
        clear H1
        obtain rfl := Option.some.inj H
        go_wp2
        repeat (go_quiet (fail); try go_wp2)
        go_ret
        exact ⟨by first | rfl | (simp [errW_none, errW_some] <;> rfl) | (simp [*, errW_none, errW_some] <;> rfl), by repeat (first | (with_reducible first | exact HB.out | apply below_alloc | apply pw_below_drewN | apply below_drew1 | refine below_set ?_ GE101.out | refine below_set ?_ GE102.out) | exact HB.out)⟩
      · replace c13 := Bool.eq_false_iff.mpr c13
        subst c13
        have H1 : (vivariumref02_Same.l0 kj2 0 a0_0 l0_1 a1_0 l1_1) = some r := by rw [if_neg (show ¬ (false = true) by decide)] at H; exact H
        clear H
        have H := H1
        clear H1
        have H' := Aside0.mk H
        clear H
        go_wp2
        repeat (go_quiet (fail); try go_wp2)
        go_loopg [5] kj2 (fun kq v5 w' => ∃ (x5_2 : Int), v5 = .int .i64 x5_2 ∧ Aside0 (vivariumref02_Same.l0 kq x5_2 a0_0 l0_1 a1_0 l1_1 = some r) ∧ Aside0 (kq ≤ kj2) ∧ Aside0 (w'.heap[gb101]? = some (.cells #[.int .i64 a0_0, (.slice A0_1 l0_1.length c0_1)] 24 (0, 0))) ∧ Aside0 (w'.heap[gb102]? = some (.cells #[.int .i64 a1_0, (.slice A1_1 l1_1.length c1_1)] 24 (0, 0))) ∧ Aside0 (Below w.heap.size w w'))
        case atStart => exact ⟨(0), (by first | rfl | (simp; done) | (simp [*]; done) | (simp [wrap64]; done)), H', ⟨Nat.le_refl _⟩, ⟨by (with_reducible repeat (first | refine blk_drewN ?_ _ | refine blk_drew ?_ | refine blk_alloc ?_ _)); exact BK101.out⟩, ⟨by (with_reducible repeat (first | refine blk_drewN ?_ _ | refine blk_drew ?_ | refine blk_alloc ?_ _)); exact BK102.out⟩, ⟨by repeat (first | (with_reducible first | exact HB.out | apply below_alloc | apply pw_below_drewN | apply below_drew1 | refine below_set ?_ GE101.out | refine below_set ?_ GE102.out) | exact HB.out)⟩⟩
        case round =>
          clear H'
          try clear c1
          try clear p2
          try clear c4
          try clear c6
          try clear c6b0
          try clear c6b1
          try clear c7
          try clear c10
          try clear c13
          try clear hcz11_0
          try clear hcz11_1
          try clear hcz12_0
          try clear hcz12_1
          try clear hcz8_0
          try clear hcz8_1
          try clear hcz9_0
          try clear hcz9_1
          try clear hfz11_0
          try clear hfz11_1
          try clear hfz12_0
          try clear hfz12_1
          try clear hfz8_0
          try clear hfz8_1
          try clear hfz9_0
          try clear hfz9_1
          try clear p2
          obtain ⟨x5_2, rfl, HA, HK2, BK101, BK102, HB⟩ := hrel
          cases gk with
          | zero => exact absurd HA.out (by simp [vivariumref02_Same.l0])
          | succ k2 =>
            have H := HA.out
            clear HA
            simp only [vivariumref02_Same.l0] at H
            by_cases c14 : x5_2 < (l0_1.length : Int)
            · rw [if_pos c14] at H
              have c14b0 : decide (x5_2 < (l0_1.length : Int)) = true := decide_eq_true c14
              clear c14
              by_cases c15 : 0 ≤ x5_2
              · rw [if_pos c15] at H
                have c15b0 : decide (0 ≤ x5_2) = true := decide_eq_true c15
                clear c15
                by_cases c16 : x5_2 < (l1_1.length : Int)
                · rw [if_pos c16] at H
                  have c16b0 : decide (x5_2 < (l1_1.length : Int)) = true := decide_eq_true c16
                  clear c16
                  by_cases c17 : (rd l0_1 x5_2) = (rd l1_1 x5_2)
                  · rw [if_pos c17] at H
                    have c17b0 : ((rd l0_1 x5_2) == (rd l1_1 x5_2)) = true := beq_iff_eq.mpr c17
                    have c17b1 : ((rd l0_1 x5_2) != (rd l1_1 x5_2)) = false := bne_eq_false_iff_eq.mpr c17
                    clear c17
                    have H' := Aside0.mk H
                    clear H
                    have hnb18 := NB101_102.out
                    have hnc18 := NB102_101.out
                    have hcz19_0 : wr.cell? ⟨gb101, 0, none⟩ = some (.int .i64 a0_0) := (blk_cell BK101.out 0).trans rfl
                    have hcz19_1 : wr.cell? ⟨gb101, 1, none⟩ = some (.slice A0_1 l0_1.length c0_1) := (blk_cell BK101.out 1).trans rfl
                    have hfz19_0 := blk_frozen BK101.out 0
                    have hfz19_1 := blk_frozen BK101.out 1
                    have p103 : 0 ≤ (x5_2 : Int) := of_decide_eq_true (by first | (with_reducible assumption) | assumption)
                    have q103 : x5_2 < (l0_1.length : Int) := of_decide_eq_true (by first | (with_reducible assumption) | assumption)
                    obtain ⟨ad103, e103, hx103_0⟩ := Kd.at_int HR0_1.out x5_2 p103 q103
                    cases e103
                    replace hx103_0 := (HB.out.cell (World.block_lt_of_cell? w _ hx103_0)).trans hx103_0
                    replace p103 := eq_true p103
                    replace q103 := eq_true q103
                    have hcz20_0 : wr.cell? ⟨gb102, 0, none⟩ = some (.int .i64 a1_0) := (blk_cell BK102.out 0).trans rfl
                    have hcz20_1 : wr.cell? ⟨gb102, 1, none⟩ = some (.slice A1_1 l1_1.length c1_1) := (blk_cell BK102.out 1).trans rfl
                    have hfz20_0 := blk_frozen BK102.out 0
                    have hfz20_1 := blk_frozen BK102.out 1
                    have p104 : 0 ≤ (x5_2 : Int) := of_decide_eq_true (by first | (with_reducible assumption) | assumption)
                    have q104 : x5_2 < (l1_1.length : Int) := of_decide_eq_true (by first | (with_reducible assumption) | assumption)
                    obtain ⟨ad104, e104, hx104_0⟩ := Kd.at_int HR1_1.out x5_2 p104 q104
                    cases e104
                    replace hx104_0 := (HB.out.cell (World.block_lt_of_cell? w _ hx104_0)).trans hx104_0
                    replace p104 := eq_true p104
                    replace q104 := eq_true q104
                    go_wp2
                    repeat (go_quiet (fail); try go_wp2)
                    go_roundg k2
                    case measure => have := HJ2.out; have := HK2.out; omega
                    case rel => exact ⟨(wrap64 (x5_2 + 1)), (by first | rfl | (simp; done) | (simp [*]; done) | (simp [wrap64]; done)), H', ⟨by have := HJ2.out; have := HK2.out; omega⟩, ⟨by (with_reducible repeat (first | refine blk_drewN ?_ _ | refine blk_drew ?_ | refine blk_alloc ?_ _)); exact BK101.out⟩, ⟨by (with_reducible repeat (first | refine blk_drewN ?_ _ | refine blk_drew ?_ | refine blk_alloc ?_ _)); exact BK102.out⟩, ⟨by repeat (first | (with_reducible first | exact HB.out | apply below_alloc | apply pw_below_drewN | apply below_drew1 | refine below_set ?_ GE101.out | refine below_set ?_ GE102.out) | exact HB.out)⟩⟩
                  · rw [if_neg c17] at H
                    have c17b0 : ((rd l0_1 x5_2) == (rd l1_1 x5_2)) = false := beq_eq_false_iff_ne.mpr c17
                    have c17b1 : ((rd l0_1 x5_2) != (rd l1_1 x5_2)) = true := bne_iff_ne.mpr c17
                    obtain rfl := Option.some.inj H
                    have hnb21 := NB101_102.out
                    have hnc21 := NB102_101.out
                    have hcz22_0 : wr.cell? ⟨gb101, 0, none⟩ = some (.int .i64 a0_0) := (blk_cell BK101.out 0).trans rfl
                    have hcz22_1 : wr.cell? ⟨gb101, 1, none⟩ = some (.slice A0_1 l0_1.length c0_1) := (blk_cell BK101.out 1).trans rfl
                    have hfz22_0 := blk_frozen BK101.out 0
                    have hfz22_1 := blk_frozen BK101.out 1
                    have p103 : 0 ≤ (x5_2 : Int) := of_decide_eq_true (by first | (with_reducible assumption) | assumption)
                    have q103 : x5_2 < (l0_1.length : Int) := of_decide_eq_true (by first | (with_reducible assumption) | assumption)
                    obtain ⟨ad103, e103, hx103_0⟩ := Kd.at_int HR0_1.out x5_2 p103 q103
                    cases e103
                    replace hx103_0 := (HB.out.cell (World.block_lt_of_cell? w _ hx103_0)).trans hx103_0
                    replace p103 := eq_true p103
                    replace q103 := eq_true q103
                    have hcz23_0 : wr.cell? ⟨gb102, 0, none⟩ = some (.int .i64 a1_0) := (blk_cell BK102.out 0).trans rfl
                    have hcz23_1 : wr.cell? ⟨gb102, 1, none⟩ = some (.slice A1_1 l1_1.length c1_1) := (blk_cell BK102.out 1).trans rfl
                    have hfz23_0 := blk_frozen BK102.out 0
                    have hfz23_1 := blk_frozen BK102.out 1
                    have p104 : 0 ≤ (x5_2 : Int) := of_decide_eq_true (by first | (with_reducible assumption) | assumption)
                    have q104 : x5_2 < (l1_1.length : Int) := of_decide_eq_true (by first | (with_reducible assumption) | assumption)
                    obtain ⟨ad104, e104, hx104_0⟩ := Kd.at_int HR1_1.out x5_2 p104 q104
                    cases e104
                    replace hx104_0 := (HB.out.cell (World.block_lt_of_cell? w _ hx104_0)).trans hx104_0
                    replace p104 := eq_true p104
                    replace q104 := eq_true q104
                    go_wp2
                    repeat (go_quiet (fail); try go_wp2)
                    go_ret
                    exact ⟨by first | rfl | (simp [errW_none, errW_some] <;> rfl) | (simp [*, errW_none, errW_some] <;> rfl), by repeat (first | (with_reducible first | exact HB.out | apply below_alloc | apply pw_below_drewN | apply below_drew1 | refine below_set ?_ GE101.out | refine below_set ?_ GE102.out) | exact HB.out)⟩
                · rw [if_neg c16] at H
                  exact absurd H (by simp)
              · rw [if_neg c15] at H
                exact absurd H (by simp)
            · rw [if_neg c14] at H
              have c14b0 : decide (x5_2 < (l0_1.length : Int)) = false := decide_eq_false c14
              clear c14
              obtain rfl := Option.some.inj H
              have hnb24 := NB101_102.out
              have hnc24 := NB102_101.out
              have hcz25_0 : wr.cell? ⟨gb101, 0, none⟩ = some (.int .i64 a0_0) := (blk_cell BK101.out 0).trans rfl
              have hcz25_1 : wr.cell? ⟨gb101, 1, none⟩ = some (.slice A0_1 l0_1.length c0_1) := (blk_cell BK101.out 1).trans rfl
              have hfz25_0 := blk_frozen BK101.out 0
              have hfz25_1 := blk_frozen BK101.out 1
              go_wp2
              repeat (go_quiet (fail); try go_wp2)
              go_ret
              exact ⟨by first | rfl | (simp [errW_none, errW_some] <;> rfl) | (simp [*, errW_none, errW_some] <;> rfl), by repeat (first | (with_reducible first | exact HB.out | apply below_alloc | apply pw_below_drewN | apply below_drew1 | refine below_set ?_ GE101.out | refine below_set ?_ GE102.out) | exact HB.out)⟩
end Go.Proofs.YtlghmadoogblcaaDoor.PS
end
section
namespace Go.Proofs.YtlghmadoogblcaaDoor.Book
open Go Go.RowKit Go.Proofs.YtlghmadoogblcaaDoorW.PrintWords Go.Proofs.YtlghmadoogblcaaDoorW.PrintLast Go.Proofs.YtlghmadoogblcaaDoorW.PrintMore Go.Proofs.YtlghmadoogblcaaDoor.PS Go.Proofs.YtlghmadoogblcaaDoor.Bx
set_option linter.unusedVariables false
set_option linter.unusedSimpArgs false
theorem chain_ {w w1 w2 : World} (h : Below w.heap.size w w1) (k : Below w1.heap.size w1 w2) : Below w.heap.size w w2 := below_then h h.size k
abbrev el (n : Int) (v : Value) : List Value := [.int .i64 n, v]
structure BookIs (w0 W : World) (b : Nat) (gv wv : Value) (G H : List (List Value)) : Prop where
  hb : W.heap[b]? = some (.cells #[gv, wv, .bool false] 44 (0, 0))
  rg : (Kd.raw 2).R 24 W w0.heap.size (fun _ => True) gv G
  rh : (Kd.raw 2).R 24 W w0.heap.size (fun _ => True) wv H
  ap : gv.ownBlock = none ∨ gv.ownBlock ≠ wv.ownBlock
  be : Below w0.heap.size w0 W
  ge : w0.heap.size ≤ b
theorem BookIs.on {w0 W W' : World} {b : Nat} {gv wv : Value} {G H : List (List Value)} (h : BookIs w0 W b gv wv G H) (hb : Below W.heap.size W W') : BookIs w0 W' b gv wv G H :=
  ⟨(hb.block b (blk_lt h.hb)).trans h.hb, Kd.R_below h.rg hb, Kd.R_below h.rh hb, h.ap, below_then h.be h.be.size hb, h.ge⟩
structure Still (b : Nat) (gv0 wv0 : Value) (w W : World) (gv wv : Value) : Prop where
  far : ∀ (k : Nat) o, w.heap[k]? = some o → k ≠ b → some k ≠ gv0.ownBlock → some k ≠ wv0.ownBlock → W.heap[k]? = some o
  ga : gv.ownBlock = gv0.ownBlock ∨ ∃ k, gv.ownBlock = some k ∧ w.heap.size ≤ k
  wa : wv.ownBlock = wv0.ownBlock ∨ ∃ k, wv.ownBlock = some k ∧ w.heap.size ≤ k
  sz : w.heap.size ≤ W.heap.size
theorem Still.on {b : Nat} {gv0 wv0 gv wv : Value} {w W W' : World} (h : Still b gv0 wv0 w W gv wv) (hb : Below W.heap.size W W') : Still b gv0 wv0 w W' gv wv :=
  ⟨fun k o hk h1 h2 h3 => (hb.block k (by have h_ := h.far k o hk h1 h2 h3; exact (Array.getElem?_eq_some_iff.1 h_).1)).trans (h.far k o hk h1 h2 h3), h.ga, h.wa, Nat.le_trans h.sz hb.size⟩
theorem Still.put {b : Nat} {gv0 wv0 gv wv : Value} {w W : World} (h : Still b gv0 wv0 w W gv wv) (j : Nat) (v : Value) : Still b gv0 wv0 w (W.setCell ⟨b, j, none⟩ v) gv wv :=
  ⟨fun k o hk h1 h2 h3 => (Below.heap_setCell W ⟨b, j, none⟩ v k h1).trans (h.far k o hk h1 h2 h3), h.ga, h.wa, by have := h.sz; simpa using this⟩
structure AS (gv0 wv0 : Value) (w0 w W : World) (b t6 t8 : Nat) (gv wv : Value) (G H : List (List Value)) (r q : List Value) : Prop where
  hb : W.heap[b]? = some (.cells #[gv, wv, .bool false] 44 (0, 0))
  h6 : W.heap[t6]? = some (.cells r.toArray 24 (0, 0))
  h8 : W.heap[t8]? = some (.cells q.toArray 24 (0, 0))
  rg : (Kd.raw 2).R 24 W w0.heap.size (fun k => k ≠ b ∧ k ≠ t6 ∧ k ≠ t8) gv G
  rh : (Kd.raw 2).R 24 W w0.heap.size (fun k => k ≠ b ∧ k ≠ t6 ∧ k ≠ t8) wv H
  ap : gv.ownBlock = none ∨ gv.ownBlock ≠ wv.ownBlock
  be : Below w0.heap.size w0 W
  ge : w0.heap.size ≤ b
  n6 : t6 ≠ b
  n8 : t8 ≠ b
  ok : Still b gv0 wv0 w W gv wv
section
variable {w0 w W W' : World} {b t6 t8 : Nat} {gv0 wv0 gv wv gv1 wv1 : Value} {G H : List (List Value)} {r q p : List Value}
theorem AS.on (h : AS gv0 wv0 w0 w W b t6 t8 gv wv G H r q) (hb : Below W.heap.size W W') : AS gv0 wv0 w0 w W' b t6 t8 gv wv G H r q :=
  ⟨(hb.block b (blk_lt h.hb)).trans h.hb, (hb.block t6 (blk_lt h.h6)).trans h.h6, (hb.block t8 (blk_lt h.h8)).trans h.h8, Kd.R_below h.rg hb, Kd.R_below h.rh hb, h.ap, below_then h.be h.be.size hb, h.ge, h.n6, h.n8, h.ok.on hb⟩
theorem AS.drew (h : AS gv0 wv0 w0 w W b t6 t8 gv wv G H r q) : AS gv0 wv0 w0 w W.drew b t6 t8 gv wv G H r q := h.on (below_drew (Below.refl _ _))
theorem AS.start (h : BookIs w0 w b gv wv G H) (g6 : w.heap.size ≤ t6) (g8 : w.heap.size ≤ t8) (W1 : World) (hb : Below w.heap.size w W1) (h6 : W1.heap[t6]? = some (.cells r.toArray 24 (0, 0))) (h8 : W1.heap[t8]? = some (.cells q.toArray 24 (0, 0))) :
    AS gv wv w0 w W1 b t6 t8 gv wv G H r q := by
  have lb := blk_lt h.hb
  have f : ∀ {v : Value} {X : List (List Value)}, (Kd.raw 2).R 24 w w0.heap.size (fun _ => True) v X → (Kd.raw 2).R 24 W1 w0.heap.size (fun k => k ≠ b ∧ k ≠ t6 ∧ k ≠ t8) v X := fun hR =>
    Kd.R_below (Kd.R_mono (Kd.R_types (Kd.R_bound hR) h.hb (g := b) (by intro q hq; simp [Kd.raw] at hq; subst hq; decide)) (fun k hk => ⟨hk.2, by have := hk.1.2.2.1; omega, by have := hk.1.2.2.1; omega⟩)) hb
  exact ⟨(hb.block b lb).trans h.hb, h6, h8, f h.rg, f h.rh, h.ap, below_then h.be h.be.size hb, h.ge, by omega, by omega, ⟨fun k o hk _ _ _ => (hb.block k (Array.getElem?_eq_some_iff.1 hk).1).trans hk, .inl rfl, .inl rfl, hb.size⟩⟩
theorem AS.done (h : AS gv0 wv0 w0 w W b t6 t8 gv wv G H r q) : BookIs w0 W b gv wv G H ∧ Still b gv0 wv0 w W gv wv :=
  ⟨⟨h.hb, Kd.R_mono h.rg (fun _ _ => trivial), Kd.R_mono h.rh (fun _ _ => trivial), h.ap, h.be, h.ge⟩, h.ok⟩
end
end Go.Proofs.YtlghmadoogblcaaDoor.Book
end
section
namespace Go.Proofs.YtlghmadoogblcaaDoor.Book
open Go Go.RowKit Go.Proofs.YtlghmadoogblcaaDoorW.PrintWords Go.Proofs.YtlghmadoogblcaaDoorW.PrintLast Go.Proofs.YtlghmadoogblcaaDoorW.PrintMore Go.Proofs.YtlghmadoogblcaaDoor.PS Go.Proofs.YtlghmadoogblcaaDoor.Bx
set_option linter.unusedVariables false
set_option linter.unusedSimpArgs false
section
variable {P : Program} (w : World)
theorem run_append_two (t ty : TypeId) (base : Nat) (e : TypeId) (i : TypeInfo) (z : Value) (bytes : Nat) (ht : P.underlying t = some (.slice e)) (hi : P.info? e = some i) (hz : i.zero = some z)
    (hsize : i.size = 1) (hby : i.bytes = bytes) (hzs : z.cells.size = 1) (v : Value) (n : Nat) (xs : List Value) (hown : w.ownsRow base e 1 v n xs)
    (ad : Addr) (c : Nat) (y : Value) (hnews : ∀ j u, [y][j]? = some u → w.cell? (ad.add j) = some u) (h1 : y.oneCell' = true)
    (h63 : n + 1 ≤ maxLen) (hbytes : (n + 1) * bytes ≤ 140737488355328) (hbase : base ≤ w.heap.size) :
    ∃ g cap w', (Builtin.append_ #[t, t] ty #[v, .slice (some ad) 1 c]).run P w = .ok (.slice (some ⟨g, 0, none⟩) (n + 1) cap) w' ∧ w'.ownsRow base e 1 (.slice (some ⟨g, 0, none⟩) (n + 1) cap) (n + 1) (xs ++ [y]) ∧
      ((v.ownBlock = some g ∧ w.grownBy w' (some g)) ∨ (w.heap.size ≤ g ∧ w.grownBy w' none)) := by
  have h1' : ∀ u ∈ [y], u.oneCell' = true := by simpa using h1
  rcases hown.2 with ⟨rfl, rfl⟩ | ⟨g, cap, cur, rfl, hbg, hg, hnc, hcm, hcs, htake⟩
  · obtain ⟨g, cap, w', hr, h2, h3, h4, h5⟩ := run_append_lies (P := P) w t ty base e i z 1 bytes ht hi hz hsize hby hzs (by decide) _ 0 xs hown ad 1 c [y] rfl hnews h1' (by decide) h63 hbytes hbase w.heap.size rfl
    refine ⟨g, cap, w', hr, h2, .inr ⟨?_, h3⟩⟩
    rcases h4 with h4 | h4
    · simp [Value.ownBlock] at h4
    · exact Nat.le_of_eq h4.symm
  · by_cases hroom : n + 1 ≤ cap
    · obtain ⟨w', hr, h2, h3⟩ := run_append_fits (P := P) w base t ty e i 1 ht hi hsize g n cap xs hown ad 1 c [y] rfl hnews h1' hroom
      exact ⟨g, cap, w', hr, h2, .inl ⟨rfl, h3⟩⟩
    · obtain ⟨v', w', hr, h2, h3⟩ := run_append_arg_grows (P := P) w t ty e i z 1 bytes ht hi hz hsize hby hzs (by decide) ⟨g, 0, none⟩ n cap xs hown.1 (hown.cells (g := g) rfl) ad 1 c [y] rfl hnews (by omega) h63 hbytes
      obtain ⟨g', cap', rfl, hb', _⟩ := h2.form (by omega)
      exact ⟨g', cap', w', hr, own_weaken h2 hbase, .inr ⟨hb', h3⟩⟩
theorem print_append_two {ops : Array Oper} {rest : List Oper} {o : Oper} {a : Act} {Q : Exit → Act → World → Prop} {W : World} (base : Nat) (hgd : o.guard = none) (s x : Operand) (t e : TypeId) (z : Value) (bytes : Nat)
    (ho : o.op = .call { callee := .builtin .append, args := #[s, x], argTypes := #[t, t] })
    (ht : P.underlying t = some (.slice e)) (hinfo : (P.info? e).map (fun i => (i.zero, i.size, i.bytes)) = some (some z, 1, bytes)) (hz : z.cells.size = 1)
    (v : Value) (n : Nat) (xs : List Value) (y : Value) (hs : a.eval s = v) (hx : a.eval x = .slice (some ⟨W.heap.size, 0, none⟩) 1 1) (h1 : y.oneCell' = true)
    (HO : W.ownsRow base e 1 v n xs) (hbase : base ≤ W.heap.size) (h63 : n + 1 ≤ maxLen) (hl : (n + 1) * bytes ≤ 140737488355328)
    (h : ∀ g cap w1, w1.ownsRow base e 1 (.slice (some ⟨g, 0, none⟩) (n + 1) cap) (n + 1) (xs ++ [y]) → ((v.ownBlock = some g ∧ W.grownBy w1 (some g)) ∨ (W.heap.size ≤ g ∧ W.grownBy w1 none)) → wpList P ops Q rest (a.put o.dst (.slice (some ⟨g, 0, none⟩) (n + 1) cap)) w1) :
    wpList P ops Q (o :: rest) a (W.alloc (.cells #[y] e)) := by
  obtain ⟨i0, hi, hzz⟩ := Option.map_eq_some_iff.1 hinfo
  simp only [Prod.mk.injEq] at hzz
  obtain ⟨hz0, hz1, hz2⟩ := hzz
  refine wpList_plain hgd fun K hK => ?_
  obtain ⟨g, cap, w', hr, h2, h3⟩ := run_append_two (P := P) (W.alloc (.cells #[y] e)) t o.type base e i0 z bytes ht hi hz0 hz1 hz2 hz v n xs (HO.alloc _) ⟨W.heap.size, 0, none⟩ 1 y
    (World.news_of_block (cs := #[y]) (t := e) (fr := (0, 0)) (heap_alloc_new W _)) h1 h63 hl (by simp; omega)
  unfold Oper.wp execOp
  simp only [ho, resolve, invoke, builtin, Sem.run_bind, Sem.run_pure, Result.andThen_ok, List.map_toArray, List.map_cons, List.map_nil, hs, hx, hr]
  refine hK _ _ (h g cap w' h2 ?_)
  rcases h3 with ⟨h3, h4⟩ | ⟨h3, h4⟩
  · exact .inl ⟨h3, World.grownBy.trans (World.grownBy_alloc W _ _) h4⟩
  · exact .inr ⟨by simp at h3; omega, World.grownBy.trans (World.grownBy_alloc W _ _) h4⟩
end
theorem gby_none {w w' : World} {r : Option Nat} (h : w.grownBy w' none) : w.grownBy w' r := ⟨h.os, h.tape, h.output, h.size, fun k hk _ => h.block k hk (by simp)⟩
structure Ans where
  n : Int
  v : Value
  u : Value
  xs : List Int
def gots (Z : List Ans) : List (List Value) := Z.map fun z => el z.n z.v
def wants (Z : List Ans) : List (List Value) := Z.map fun z => el z.n z.u
abbrev Owns (w0 W : World) (v : Value) (xs : List Int) : Prop := W.ownsRow w0.heap.size 58 1 v xs.length (nums .u64 xs)
def Apart (Z : List Ans) : Prop := ∀ (i j : Nat) x y, i < j → Z[i]? = some x → Z[j]? = some y → x.v.ownBlock = none ∨ x.v.ownBlock ≠ y.v.ownBlock
structure Stack (w0 W : World) (b : Nat) (gv wv : Value) (Z : List Ans) : Prop where
  book : BookIs w0 W b gv wv (gots Z) (wants Z)
  own : ∀ (j : Nat) z, Z[j]? = some z → Owns w0 W z.v z.xs
  ref : ∀ (j : Nat) z, Z[j]? = some z → Owns w0 W z.u z.xs
  apart : Apart Z
theorem Stack.on {w0 W W' : World} {b : Nat} {gv wv : Value} {Z : List Ans} (h : Stack w0 W b gv wv Z) (hb : Below W.heap.size W W') : Stack w0 W' b gv wv Z :=
  ⟨h.book.on hb, fun j z hz => pw_own_below (h.own j z hz) hb, fun j z hz => pw_own_below (h.ref j z hz) hb, h.apart⟩
def marked (i k j : Nat) (xs : List Int) : List Int := if j < i then List.replicate xs.length (100 + (j : Int)) else if j = i then List.replicate k (100 + (j : Int)) ++ xs.drop k else xs
theorem marked_zero (j : Nat) (xs : List Int) : marked 0 0 j xs = xs := by
  unfold marked
  split
  · omega
  · split <;> simp
theorem marked_other {i k k' j : Nat} (h : j ≠ i) (xs : List Int) : marked i k j xs = marked i k' j xs := by
  unfold marked
  split
  · rfl
  · simp only [if_neg h]
theorem marked_set {i k : Nat} {xs : List Int} (h : k < xs.length) : (marked i k i xs).set k (100 + (i : Int)) = marked i (k + 1) i xs := by
  unfold marked
  rw [if_neg (Nat.lt_irrefl i), if_pos rfl, if_neg (Nat.lt_irrefl i), if_pos rfl]
  rw [List.set_append_right _ _ (by simp)]
  rw [List.length_replicate, Nat.sub_self, List.drop_eq_getElem_cons h, List.set_cons_zero]
  rw [List.replicate_succ', List.append_assoc]
  rfl
theorem marked_all {i j : Nat} (h : j < i) (xs : List Int) : marked i 0 j xs = List.replicate xs.length (100 + (j : Int)) := if_pos h
structure Base (w0 W : World) (b : Nat) (gv wv : Value) (Z : List Ans) : Prop where
  hb : W.heap[b]? = some (.cells #[gv, wv, .bool false] 44 (0, 0))
  rg : (Kd.raw 2).R 24 W w0.heap.size (fun _ => True) gv (gots Z)
  be : Below w0.heap.size w0 W
  ge : w0.heap.size ≤ b
  apart : Apart Z
section
variable {w0 w W W' W1 : World} {b : Nat} {gv wv mv : Value} {Z : List Ans} {z : Ans} {M : List Value}
theorem Base.at_ (h : Base w0 W b gv wv Z) : W.cell? ⟨b, 0, none⟩ = some gv ∧ W.cell? ⟨b, 1, none⟩ = some wv ∧ W.cell? ⟨b, 2, none⟩ = some (.bool false) :=
  ⟨(blk_cell h.hb 0).trans rfl, (blk_cell h.hb 1).trans rfl, (blk_cell h.hb 2).trans rfl⟩
theorem Base.grownT (T : TypeId) (hT1 : 44 ≠ T) (hT2 : 24 ≠ T) (h : Base w0 W b gv wv Z) {row : Option Nat} (hg : W.grownBy W' row) (hrow : ∀ g, row = some g → w0.heap.size ≤ g ∧ ∃ cs, W.heap[g]? = some (.cells cs T (0, 0))) : Base w0 W' b gv wv Z := by
  have nb : some b ≠ row := by
    intro hbr
    obtain ⟨_, cs, hc⟩ := hrow b hbr.symm
    rw [h.hb] at hc
    injection hc with hc
    injection hc with _ hc
    exact hT1 hc
  refine ⟨blk_grown h.hb hg nb, ?_, h.be.grown hg h.be.size (fun k hk => (hrow k hk).1), h.ge, h.apart⟩
  cases row with
  | none => exact Kd.R_grown h.rg hg (fun _ _ => by simp)
  | some g =>
    obtain ⟨_, cs, hc⟩ := hrow g rfl
    exact Kd.R_mono (Kd.R_grown (Kd.R_types h.rg hc (by intro q hq; simp [Kd.raw] at hq; subst hq; exact hT2)) hg (fun k hk e => hk.2 (Option.some.inj e))) (fun _ _ => trivial)
theorem Base.grown (h : Base w0 W b gv wv Z) {row : Option Nat} (hg : W.grownBy W' row) (hrow : ∀ g, row = some g → w0.heap.size ≤ g ∧ ∃ cs, W.heap[g]? = some (.cells cs 58 (0, 0))) : Base w0 W' b gv wv Z := h.grownT _ (by decide) (by decide) hg hrow
structure Marks (w0 W : World) (b : Nat) (gv wv : Value) (Z : List Ans) (i k : Nat) : Prop where
  base : Base w0 W b gv wv Z
  own : ∀ (j : Nat) z, Z[j]? = some z → W.ownsRow w0.heap.size 58 1 z.v z.xs.length (nums .u64 (marked i k j z.xs))
theorem Marks.start (h : Stack w0 W b gv wv Z) : Marks w0 W b gv wv Z 0 0 :=
  ⟨⟨h.book.hb, h.book.rg, h.book.be, h.book.ge, h.apart⟩, fun j z hz => by rw [marked_zero]; exact h.own j z hz⟩
theorem own_block {base n : Nat} {e : TypeId} {v : Value} {xs : List Value} (h : W.ownsRow base e 1 v n xs) : ∀ g, v.ownBlock = some g → base ≤ g ∧ ∃ cs, W.heap[g]? = some (.cells cs e (0, 0)) := fun g hg => ⟨own_base h g hg, own_typed h g hg⟩
theorem Marks.store {i g c : Nat} {x y : Int} (h : Marks w0 W b gv wv Z i y.toNat) (hz : Z[i]? = some z) (hv : z.v = .slice (some ⟨g, 0, none⟩) z.xs.length c) (hx : (i : Int) = x) (hy0 : 0 ≤ y) (hy : y < (z.xs.length : Int)) :
    Marks w0 (W.setCell ⟨g, y.toNat, none⟩ (.int .u64 (100 + x))) b gv wv Z i (y.toNat + 1) := by
  have ho := h.own i z hz
  have ob := own_block ho g (by rw [hv]; rfl)
  rw [hv] at ho
  obtain ⟨h1, h2⟩ := own_store ho y (100 + x)
  rw [← hx, marked_set (by omega)] at h1
  refine ⟨h.base.grown h2 (fun k hk => by cases hk; exact ob), fun j q hq => ?_⟩
  by_cases hji : j = i
  · subst hji
    rw [hz] at hq
    cases hq
    rw [hv, ← hx]
    exact h1
  · rw [marked_other hji (k' := y.toNat)]
    refine own_other (h.own j q hq) h2 ?_
    rcases Nat.lt_or_gt_of_ne hji with hlt | hgt
    · rcases h.base.apart j i q z hlt hq hz with a | a
      · exact .inl a
      · right; rw [hv] at a; exact a
    · rcases h.base.apart i j z q hgt hz hq with a | a
      · rw [hv] at a; simp [Value.ownBlock] at a
      · right; rw [hv] at a; exact fun e => a e.symm
def Full (W : World) (j : Nat) (v : Value) (n : Nat) : Prop := ∀ k, k < n → ∃ g, v.ownBlock = some g ∧ W.cell? ⟨g, k, none⟩ = some (.int .u64 (100 + (j : Int)))
theorem Full.of_own {base n : Nat} {e : TypeId} {v : Value} {j : Nat} (h : W.ownsRow base e 1 v n (nums .u64 (List.replicate n (100 + (j : Int))))) : Full W j v n := by
  intro k hk
  obtain ⟨g, cap, rfl, _, _⟩ := h.form (by omega)
  refine ⟨g, rfl, ?_⟩
  have := h.cells (g := g) rfl k (.int .u64 (100 + (j : Int))) (by simp [nums, hk])
  rwa [add_plain] at this
theorem Full.keep {v : Value} {j n : Nat} (h : Full W j v n) {row : Option Nat} (hg : W.grownBy W' row) (hne : v.ownBlock = none ∨ v.ownBlock ≠ row) : Full W' j v n := by
  intro k hk
  obtain ⟨g, e, hc⟩ := h k hk
  refine ⟨g, e, hg.cell hc ?_⟩
  rcases hne with a | a
  · rw [a] at e; cases e
  · rw [e] at a; exact a
structure MoreIs (w0 W : World) (Z : List Ans) (j : Nat) (v : Value) (n : Nat) : Prop where
  at_ : ∃ g c cs, v = .slice (some ⟨g, 0, none⟩) (n + 70) c ∧ n + 70 ≤ c ∧ W.heap[g]? = some (.cells cs 58 (0, 0))
  full : Full W j v (n + 70)
  far : ∀ (l : Nat) y, j < l → Z[l]? = some y → y.v.ownBlock = none ∨ y.v.ownBlock ≠ v.ownBlock
structure Grow (w0 W : World) (b : Nat) (gv wv : Value) (Z : List Ans) (mv : Value) (M : List Value) : Prop where
  base : Base w0 W b gv wv Z
  rm : (Kd.raw 1).R 22 W w0.heap.size (fun _ => True) mv (M.map fun v => [v])
  got : ∀ (j : Nat) z, Z[j]? = some z → Full W j z.v z.xs.length
  own : ∀ (j : Nat) z, M.length ≤ j → Z[j]? = some z → W.ownsRow w0.heap.size 58 1 z.v z.xs.length (nums .u64 (List.replicate z.xs.length (100 + (j : Int))))
  gtyp : ∀ (j : Nat) z g, Z[j]? = some z → z.v.ownBlock = some g → ∃ cs, W.heap[g]? = some (.cells cs 58 (0, 0))
  more : ∀ (j : Nat) v z, M[j]? = some v → Z[j]? = some z → MoreIs w0 W Z j v z.xs.length
theorem Grow.start (h : Marks w0 W b gv wv Z Z.length 0) : Grow w0 W b gv wv Z (.slice none 0 0) [] := by
  have lt : ∀ (j : Nat) z, Z[j]? = some z → j < Z.length := fun j z hz => (List.getElem?_eq_some_iff.1 hz).1
  have ho : ∀ (j : Nat) z, Z[j]? = some z → W.ownsRow w0.heap.size 58 1 z.v z.xs.length (nums .u64 (List.replicate z.xs.length (100 + (j : Int)))) := fun j z hz => by
    have := h.own j z hz; rwa [marked_all (lt j z hz)] at this
  exact ⟨h.base, Kd.R_nil _ _ _ _ _, fun j z hz => Full.of_own (ho j z hz), fun j z _ hz => ho j z hz, fun j z g hz hg => own_typed (ho j z hz) g hg, fun j v z hv => by simp at hv⟩
structure Growing (w0 W W' : World) (j : Nat) (z : Ans) (v : Value) (m : Nat) : Prop where
  own : W'.ownsRow w0.heap.size 58 1 v (z.xs.length + m) (nums .u64 (List.replicate (z.xs.length + m) (100 + (j : Int))))
  gr : W.grownBy W' z.v.ownBlock
  old : Full W' j z.v z.xs.length
  typ : ∀ g, z.v.ownBlock = some g → ∃ cs, W'.heap[g]? = some (.cells cs 58 (0, 0))
  at_ : v.ownBlock = z.v.ownBlock ∨ ∃ g, v.ownBlock = some g ∧ W.heap.size ≤ g
  lt : ∀ g, z.v.ownBlock = some g → g < W.heap.size
  be : Below w0.heap.size w0 W'
theorem Growing.start (h : Grow w0 W b gv wv Z mv M) (hz : Z[M.length]? = some z) : Growing w0 W W M.length z z.v 0 := by
  have ho := h.own _ z (Nat.le_refl _) hz
  exact ⟨ho, ⟨rfl, rfl, rfl, Nat.le_refl _, fun _ _ _ => rfl⟩, h.got _ z hz, fun g hg => own_typed ho g hg, .inl rfl, fun g hg => own_lt ho g hg, h.base.be⟩
theorem rep_snoc (n : Nat) (a : Int) : nums .u64 (List.replicate n a) ++ [.int .u64 a] = nums .u64 (List.replicate (n + 1) a) := by rw [List.replicate_succ', nums_append]; rfl
theorem Growing.step {j m g cap : Nat} {v : Value} {x : Int} (h : Growing w0 W W' j z v m) (hx : (j : Int) = x)
    (ho : W1.ownsRow w0.heap.size 58 1 (.slice (some ⟨g, 0, none⟩) (z.xs.length + m + 1) cap) (z.xs.length + m + 1) (nums .u64 (List.replicate (z.xs.length + m) (100 + (j : Int))) ++ [.int .u64 (100 + x)]))
    (hg : (v.ownBlock = some g ∧ W'.grownBy W1 (some g)) ∨ (W'.heap.size ≤ g ∧ W'.grownBy W1 none)) : Growing w0 W W1 j z (.slice (some ⟨g, 0, none⟩) (z.xs.length + m + 1) cap) (m + 1) := by
  subst hx
  rw [rep_snoc] at ho
  have hs := h.gr.size
  rcases hg with ⟨hv, hg⟩ | ⟨hv, hg⟩
  · have hbe : Below w0.heap.size w0 W1 := h.be.grown hg h.be.size (fun k hk => by cases hk; exact own_base h.own g hv)
    rcases h.at_ with a | ⟨g', a, hge⟩
    · rw [hv] at a
      refine ⟨ho, ?_, ?_, ?_, .inl a, h.lt, hbe⟩
      · exact World.grownBy.trans h.gr (by rw [← a]; exact hg)
      · intro k hk
        refine ⟨g, a.symm, ?_⟩
        obtain ⟨g2, e2, hc⟩ := Full.of_own ho k (by omega)
        cases e2
        exact hc
      · intro g2 hg2
        rw [← a] at hg2
        cases hg2
        exact own_typed ho g rfl
    · rw [hv] at a
      cases a
      have ne : z.v.ownBlock ≠ some g := fun e => by have := h.lt g e; omega
      refine ⟨ho, ?_, h.old.keep hg (.inr ne), ?_, .inr ⟨g, rfl, hge⟩, h.lt, hbe⟩
      · exact ⟨hg.os.trans h.gr.os, hg.tape.trans h.gr.tape, hg.output.trans h.gr.output, Nat.le_trans hs hg.size, fun k hk hne => (hg.block k (by omega) (fun e => by cases e; omega)).trans (h.gr.block k hk hne)⟩
      · intro g2 hg2
        obtain ⟨cs, hc⟩ := h.typ g2 hg2
        exact ⟨cs, (hg.block g2 (by have := h.lt g2 hg2; omega) (fun e => ne (hg2.trans e))).trans hc⟩
  · have hbe : Below w0.heap.size w0 W1 := h.be.grown hg h.be.size (fun k hk => by cases hk)
    refine ⟨ho, World.grownBy.trans h.gr (gby_none hg), h.old.keep hg (by cases z.v.ownBlock <;> simp), ?_, .inr ⟨g, rfl, by omega⟩, h.lt, hbe⟩
    intro g2 hg2
    obtain ⟨cs, hc⟩ := h.typ g2 hg2
    exact ⟨cs, (hg.block g2 (by have := h.lt g2 hg2; omega) (by simp)).trans hc⟩
theorem Growing.rm {j m : Nat} {v : Value} (h : Grow w0 W b gv wv Z mv M) (hz : Z[M.length]? = some z) (hG : Growing w0 W W' j z v m) : (Kd.raw 1).R 22 W' w0.heap.size (fun _ => True) mv (M.map fun v => [v]) := by
  have ho := own_block (h.own _ z (Nat.le_refl _) hz)
  cases hrow : z.v.ownBlock with
  | none => have := hG.gr; rw [hrow] at this; exact Kd.R_grown h.rm this (fun _ _ => by simp)
  | some g =>
    obtain ⟨_, cs, hc⟩ := ho g hrow
    have := hG.gr; rw [hrow] at this
    exact Kd.R_mono (Kd.R_grown (Kd.R_types h.rm hc (by intro q hq; simp [Kd.raw] at hq; subst hq; decide)) this (fun k hk e => hk.2 (Option.some.inj e))) (fun _ _ => trivial)
theorem MoreIs.on {j n : Nat} {v : Value} (h : MoreIs w0 W Z j v n) {row : Option Nat} (hg : W.grownBy W' row) (hne : v.ownBlock ≠ row) : MoreIs w0 W' Z j v n := by
  obtain ⟨g, c, cs, e, hc, hh⟩ := h.at_
  refine ⟨⟨g, c, cs, e, hc, blk_grown hh hg ?_⟩, h.full.keep hg (.inr hne), h.far⟩
  rw [e] at hne
  exact hne
end
end Go.Proofs.YtlghmadoogblcaaDoor.Book
end
section
namespace Go.Proofs.YtlghmadoogblcaaDoor.Lent
open Go Go.RowKit Go.Proofs.YtlghmadoogblcaaDoorW.PrintWords Go.Proofs.YtlghmadoogblcaaDoorW.PrintLast Go.Proofs.YtlghmadoogblcaaDoorW.PrintMore Go.Proofs.YtlghmadoogblcaaDoor.PS Go.Proofs.YtlghmadoogblcaaDoor.Bx Go.Proofs.YtlghmadoogblcaaDoor.Book
set_option linter.unusedVariables false
set_option linter.unusedSimpArgs false
theorem c_reads {w : World} {k : IntKind} {A : Option Addr} {n : Nat} {xs : List Int} (h : Kd.C (Kd.int k) w A n xs) : ReadsInt w k A n xs := by
  obtain ⟨h1, h2, h3⟩ := h
  refine ⟨h1, h2, fun hn => ?_⟩
  obtain ⟨ad, e, hc⟩ := h3 hn
  refine ⟨ad, e, fun j hj => ?_⟩
  obtain ⟨c, hl, hk, hcc⟩ := hc j (xs.getD j 0) (by rw [List.getD_eq_getElem?_getD, List.getElem?_eq_getElem (by omega)]; rfl)
  have hk' : c = [.int k (xs.getD j 0)] := hk
  subst hk'
  have := hcc 0 _ rfl
  have hs : (Kd.int k).sz = 1 := rfl
  rwa [hs, Nat.mul_one, Nat.add_zero] at this
def tail (k : Nat) : List Int := (List.range k).map fun i : Nat => 7777 + (i : Int)
theorem tail_succ (k : Nat) : tail k ++ [7777 + (k : Int)] = tail (k + 1) := by simp [tail, List.range_succ]
theorem rd_tail {xs : List Int} {y : Int} (h0 : 0 ≤ y) (h1 : y < 70) : rd (xs ++ tail 70) ((xs.length : Int) + y) = 7777 + y := by
  unfold rd
  rw [List.getD_eq_getElem?_getD, List.getElem?_append_right (by omega)]
  rw [show ((xs.length : Int) + y).toNat - xs.length = y.toNat by omega]
  have : y.toNat < 70 := by omega
  simp [tail, this]
  omega
theorem own_C_ {w : World} {base : Nat} {v : Value} {xs : List Int} (h : w.ownsRow base 58 1 v xs.length (nums .u64 xs)) : ∃ A c, v = .slice A xs.length c ∧ xs.length ≤ c ∧ Kd.C (Kd.int .u64) w A xs.length xs :=
  Kd.R_reads (Kd.R_of_own (h1 := fun _ => rfl) (ok := fun _ => True) h (fun _ _ => trivial))
def LentIs (base : Nat) (W : World) (g c : Nat) (xs : List Int) : Prop := W.ownsRow base 58 1 (.slice (some ⟨g, 0, none⟩) (xs.length + 70) c) (xs.length + 70) (nums .u64 (xs ++ tail 70))
section
variable {base : Nat} {W W' : World} {g c : Nat} {xs : List Int}
theorem LentIs.on (h : LentIs base W g c xs) (hb : Below W.heap.size W W') : LentIs base W' g c xs := pw_own_below h hb
theorem LentIs.cap (h : LentIs base W g c xs) : xs.length + 70 ≤ c := own_le h
theorem LentIs.own (h : LentIs base W g c xs) : W.ownsRow base 58 1 (.slice (some ⟨g, 0, none⟩) xs.length c) xs.length (nums .u64 xs) := by
  obtain ⟨h1, h2⟩ := h
  refine ⟨by simp [nums], .inr ?_⟩
  rcases h2 with ⟨h2, _⟩ | ⟨g', cap, cur, hv, hb, hg, hn, hm, hs, ht⟩
  · cases h2
  · injection hv with e1 e2 e3
    injection e1 with e1
    injection e1 with e1
    subst e1
    subst e3
    refine ⟨_, _, cur, rfl, hb, hg, by omega, hm, hs, ?_⟩
    have := congrArg (List.take xs.length) ht
    rw [List.take_take, nums_append, List.take_left' (by simp [nums])] at this
    rw [← this]
    congr 1
    omega
theorem LentIs.C (h : LentIs base W g c xs) : Kd.C (Kd.int .u64) W (some ⟨g, 0, none⟩) xs.length xs := by
  obtain ⟨A, c', e, hl, hC⟩ := own_C_ h.own
  cases e
  exact hC
end
set_option maxHeartbeats 4000000 in
set_option maxRecDepth 100000 in
theorem lent (n : Int) (A : Option Addr) (c : Nat) (xs : List Int) (w : World) (hC : Kd.C (Kd.int .u64) w A xs.length xs) (hl : xs.length ≤ c) (hm : xs.length ≤ 17592186043904) :
    Calls Tryd.prog 8 #[.agg #[.int .i64 n, .slice A xs.length c]] w fun e w' => ∃ g c', e = .returned (.agg #[.int .i64 n, .slice (some ⟨g, 0, none⟩) xs.length c']) ∧ LentIs w.heap.size w' g c' xs ∧ Below w.heap.size w w' := by
  have HC := Aside0.mk hC; have HL := Aside0.mk hl; have HM := Aside0.mk hm
  have hu := Tryd.underlying24
  have HN := Aside0.mk (own_nil w w.heap.size 58 1)
  clear hC hl hm
  go_enter Tryd.func8, Tryd.ntmps8
  go_wp2_with (first
    | ((with_reducible refine gate_dst (N := 1) rfl ?_); refine box_event ?hg1 (N := 1) ?hd1 (cs := #[.int .i64 n, .slice A xs.length c]) (t := 24) ?hr1 ?_; (case hd1 => rfl); (case hg1 => rfl); (case hr1 => first | (go_simp; done) | (go_simp; rfl)); intro t1 g1 W1 x1 hb1)
    | ((with_reducible refine gate_dst (N := 2) rfl ?_); refine box_event ?hg2 (N := 2) ?hd2 (cs := #[.int .i64 0, .slice none 0 0]) (t := 24) ?hr2 ?_; (case hd2 => rfl); (case hg2 => rfl); (case hr2 => first | (go_simp; done) | (go_simp; rfl)); intro t2 g2 W2 x2 hb2; have HB := Aside0.mk (chain_ hb1 hb2); have H1x := Aside0.mk ((hb2.block t1 (blk_lt x1)).trans x1); have H2x := Aside0.mk x2; have E1 := Aside0.mk (show w.heap.size ≤ t1 ∧ w.heap.size ≤ t2 by have := hb1.size; omega); have i0_ := (blk_cell H1x.out 0).trans (show ((#[Value.int .i64 n, Value.slice A xs.length c] : Array Value)[0]?) = some (.int .i64 n) from rfl); have i1_ := (blk_cell H1x.out 1).trans (show ((#[Value.int .i64 n, Value.slice A xs.length c] : Array Value)[1]?) = some (.slice A xs.length c) from rfl); have NE := Aside0.mk (show t1 ≠ t2 by have := blk_lt x1; omega); clear g1 g2 x1 x2 hb1 hb2)
    | (at_builtin; refine print_append_row (w0 := w) (W := W2) w.heap.size rfl (.tmp 5) (.tmp 7) 22 58 .u64 8 rfl Tryd.underlying22 (by kernel_rfl) (by decide) (.slice none 0 0) [] xs A xs.length c rfl rfl (own_nil _ _ _ _) (c_reads (Kd.C_below HC.out HB.out)) HB.out HB.out.size ?c1 ?_; (case c1 => go_light; have := HM.out; simp; omega); intro v1 w1 ho_ hb_ hg_ hat_; rw [List.nil_append] at ho_; have HO := Aside0.mk ho_; have H1y := Aside0.mk (blk_grown H1x.out hg_ (by simp [Value.ownBlock])); have H2y := Aside0.mk (blk_grown H2x.out hg_ (by simp [Value.ownBlock])); clear i0_ i1_ H1x H2x HB; have H1x := H1y; have H2x := H2y; have HB := Aside0.mk hb_; clear H1y H2y ho_ hb_ hg_ hat_))
  go_loopg [3, 4] 70 (fun g s3 s4 wr => ∃ y : Int, s4 = .int .i64 y ∧ Aside0 (0 ≤ y ∧ (g : Int) = 70 - y) ∧ Aside0 (wr.ownsRow w.heap.size 58 1 s3 (xs.length + y.toNat) (nums .u64 (xs ++ tail y.toNat))) ∧ Aside0 (wr.heap[t1]? = some (.cells #[.int .i64 n, .slice A xs.length c] 24 (0, 0))) ∧ Aside0 (wr.heap[t2]? = some (.cells #[.int .i64 0, .slice none 0 0] 24 (0, 0))) ∧ Aside0 (Below w.heap.size w wr))
  case atStart => exact ⟨0, rfl, ⟨by omega, by omega⟩, ⟨by have h_ := HO.out; simpa [tail] using h_⟩, H1x, H2x, HB⟩
  case round =>
    clear HO H1x H2x HB
    obtain ⟨y, rfl, HY, HO, H1x, H2x, HB⟩ := hrel
    by_cases q : y < 70
    · have p : 0 ≤ y := HY.out.1
      have w1_ : wrap64 (y + 1) = y + 1 := by unfold wrap64; omega
      have w3_ : wrap64 (7777 + y) = 7777 + y := by unfold wrap64; omega
      have w4_ : IntKind.u64.wrap (7777 + y) = 7777 + y := by unfold IntKind.wrap; simp [IntKind.signed, IntKind.bits]; omega
      go_wp2_with (at_builtin; refine print_append_two (W := wr) w.heap.size rfl (.tmp 13) (.tmp 17) 22 58 (.int .u64 0) 8 rfl Tryd.underlying22 (by kernel_rfl) rfl _ (xs.length + y.toNat) _ (.int .u64 (7777 + y)) rfl rfl rfl HO.out HB.out.size ?c1 ?c2 ?_; (case c1 => go_light; have := HM.out; simp only [maxLen]; omega); (case c2 => go_light; have := HM.out; omega); intro g_ cap_ w1 how_ hgr_; have HN1 := Aside0.mk how_; have HG1 := Aside0.mk hgr_; clear how_ hgr_)
      go_roundg (70 - (y + 1).toNat)
      case measure => go_light; have := HY.out; omega
      case rel =>
        go_light
        have hg : ∃ row, wr.grownBy w1 row ∧ ∀ k, row = some k → w.heap.size ≤ k ∧ ∃ cs, wr.heap[k]? = some (.cells cs 58 (0, 0)) := by
          rcases HG1.out with ⟨h1, h2⟩ | ⟨h1, h2⟩
          · exact ⟨_, h2, fun k hk => by cases hk; exact own_block HO.out g_ h1⟩
          · exact ⟨_, h2, fun k hk => by cases hk⟩
        obtain ⟨row, hg, hrow⟩ := hg
        have far : ∀ t cs, wr.heap[t]? = some (.cells cs 24 (0, 0)) → some t ≠ row := by
          intro t cs ht e_
          obtain ⟨_, cs', hc⟩ := hrow t e_.symm
          rw [ht] at hc
          injection hc with hc
          injection hc with _ hc
          exact absurd hc (by decide)
        refine ⟨y + 1, by simp [w1_], ⟨by omega, by have := HY.out; omega⟩, ⟨?_⟩, ⟨blk_grown H1x.out hg (far _ _ H1x.out)⟩, ⟨blk_grown H2x.out hg (far _ _ H2x.out)⟩, ⟨HB.out.grown hg HB.out.size (fun k hk => (hrow k hk).1)⟩⟩
        have h_ := HN1.out
        have e1 : nums .u64 (xs ++ tail y.toNat) ++ [Value.int .u64 (7777 + y)] = nums .u64 (xs ++ tail (y.toNat + 1)) := by
          rw [← tail_succ, ← List.append_assoc, nums_append _ (xs ++ tail y.toNat)]
          rw [show ((y.toNat : Nat) : Int) = y by omega]
          rfl
        rw [e1] at h_
        rwa [show (y + 1).toNat = y.toNat + 1 by omega]
    · have y70 : y = 70 := by have := HY.out; omega
      subst y70
      have HO := Aside0.mk (show wr.ownsRow w.heap.size 58 1 _ (xs.length + 70) (nums .u64 (xs ++ tail 70)) from HO.out)
      obtain ⟨g, cp, e_, _⟩ := HO.out.form (by omega)
      subst e_
      have q3 : xs.length ≤ cp := by have := own_le HO.out; omega
      have i0_ := (blk_cell H1x.out 0).trans (show ((#[Value.int .i64 n, Value.slice A xs.length c] : Array Value)[0]?) = some (.int .i64 n) from rfl)
      have i1_ := (blk_cell H1x.out 1).trans (show ((#[Value.int .i64 n, Value.slice A xs.length c] : Array Value)[1]?) = some (.slice A xs.length c) from rfl)
      clear HY
      go_wp2_with fail
      refine start_ (n := 9) (S := fun w' => w'.cell? ⟨t1, 0, none⟩ = some (.int .i64 n) ∧ w'.cell? ⟨t1, 1, none⟩ = some (.slice A xs.length c)) (ds := [8]) #[false, false, false, false, false, false, false, false, false] (by kernel_rfl) rfl rfl ⟨(blk_cell H1x.out 0).trans rfl, (blk_cell H1x.out 1).trans rfl⟩ (fun hHeld => ?_)
      replace H1x := Aside0.mk (blk_drew H1x.out)
      replace H2x := Aside0.mk (blk_drew H2x.out)
      replace HO := Aside0.mk (pw_own_below HO.out (below_drew (Below.refl wr.heap.size wr)))
      replace HB := Aside0.mk (below_drew HB.out)
      clear i0_ i1_
      generalize wr.drew = wx at H1x H2x HO HB hHeld ⊢
      refine pure_ (i := 0) (N := (some 19)) (v := ?_) (a' := ?_) #[true, false, false, false, false, false, false, false, false] rfl rfl (by kernel_rfl) (fun _ _ _ h => h) (Or.inl ⟨by rfl, ?_⟩) ?_ ?_
      rotate_left
      · intro w'
        go_simp
        with_reducible rfl
      rotate_left
      · simp only [Act.put, List.setIfInBounds_toArray, List.set_cons_zero, List.set_cons_succ, i64_w, i32_w]
        rfl
      refine take_ (i := 1) (N := (some 20)) (v := ?_) (a' := ?_) #[true, true, false, false, false, false, false, false, false] rfl rfl (by kernel_rfl) (fun _ _ _ h => h) (Or.inl ⟨by rfl, ?_⟩) hHeld ?_ ?_
      rotate_left
      · rintro w' ⟨s0, s1⟩
        go_simp
        with_reducible rfl
      rotate_left
      · simp only [Act.put, List.setIfInBounds_toArray, List.set_cons_zero, List.set_cons_succ, i64_w, i32_w]
        rfl
      refine pure_ (i := 2) (N := (some 21)) (v := ?_) (a' := ?_) #[true, true, true, false, false, false, false, false, false] rfl rfl (by kernel_rfl) (fun _ _ _ h => h) (Or.inl ⟨by rfl, ?_⟩) ?_ ?_
      rotate_left
      · intro w'
        go_simp
        with_reducible rfl
      rotate_left
      · simp only [Act.put, List.setIfInBounds_toArray, List.set_cons_zero, List.set_cons_succ, i64_w, i32_w]
        rfl
      refine pure_ (i := 3) (N := (some 22)) (v := ?_) (a' := ?_) #[true, true, true, true, false, false, false, false, false] rfl rfl (by kernel_rfl) (fun _ _ _ h => h) (Or.inl ⟨by rfl, ?_⟩) ?_ ?_
      rotate_left
      · intro w'
        go_simp
        with_reducible rfl
      rotate_left
      · simp only [Act.put, List.setIfInBounds_toArray, List.set_cons_zero, List.set_cons_succ, i64_w, i32_w]
        rfl
      refine take_ (i := 4) (N := (some 23)) (v := ?_) (a' := ?_) #[true, true, true, true, true, false, false, false, false] rfl rfl (by kernel_rfl) (fun _ _ _ h => h) (Or.inl ⟨by rfl, ?_⟩) hHeld ?_ ?_
      rotate_left
      · rintro w' ⟨s0, s1⟩
        go_simp
        with_reducible rfl
      rotate_left
      · simp only [Act.put, List.setIfInBounds_toArray, List.set_cons_zero, List.set_cons_succ, i64_w, i32_w]
        rfl
      refine pure_ (i := 5) (N := (some 24)) (v := ?_) (a' := ?_) #[true, true, true, true, true, true, false, false, false] rfl rfl (by kernel_rfl) (fun _ _ _ h => h) (Or.inl ⟨by rfl, ?_⟩) ?_ ?_
      rotate_left
      · intro w'
        go_simp
        with_reducible rfl
      rotate_left
      · simp only [Act.put, List.setIfInBounds_toArray, List.set_cons_zero, List.set_cons_succ, i64_w, i32_w]
        rfl
      refine pure_ (i := 6) (N := (some 25)) (v := ?_) (a' := ?_) #[true, true, true, true, true, true, true, false, false] rfl rfl (by kernel_rfl) (fun _ _ _ h => h) (Or.inl ⟨by rfl, ?_⟩) ?_ ?_
      rotate_left
      · intro w'
        go_simp
        with_reducible rfl
      rotate_left
      · simp only [Act.put, List.setIfInBounds_toArray, List.set_cons_zero, List.set_cons_succ, i64_w, i32_w]
        rfl
      refine pure_ (i := 7) (N := (some 26)) (v := ?_) (a' := ?_) #[true, true, true, true, true, true, true, true, false] rfl rfl (by kernel_rfl) (fun _ _ _ h => h) (Or.inl ⟨by rfl, ?_⟩) ?_ ?_
      rotate_left
      · intro w'
        go_simp
        with_reducible rfl
      rotate_left
      · simp only [Act.put, List.setIfInBounds_toArray, List.set_cons_zero, List.set_cons_succ, i64_w, i32_w]
        rfl
      refine last_ (i := 8) (N := none) #[true, true, true, true, true, true, true, true, true] rfl rfl (by kernel_rfl) (by decide) (fun K hK => ?_)
      have c0_ := (blk_cell H2x.out 0).trans (show ((#[Value.int .i64 0, Value.slice none 0 0] : Array Value)[0]?) = some (.int .i64 0) from rfl)
      have c1_ := (blk_cell H2x.out 1).trans (show ((#[Value.int .i64 0, Value.slice none 0 0] : Array Value)[1]?) = some (.slice none 0 0) from rfl)
      have f0_ := blk_frozen H2x.out 0
      have f1_ := blk_frozen H2x.out 1
      refine skip_ (w1 := (wx.setCell ⟨t2, 0, none⟩ (.int .i64 n)).setCell ⟨t2, 1, none⟩ (.slice (some ⟨g, 0, none⟩) xs.length cp)) (by rfl) rfl ?_ ?_
      · first | (go_simp; done) | (go_simp; rfl)
      refine hK.out _ _ ?_
      clear hK K hHeld c0_ c1_ f0_ f1_
      refine done_ (by kernel_rfl) ?_
      have HT2 := Aside0.mk (blk_put (cs := #[.int .i64 n, .slice none 0 0]) (blk_put (cs := #[.int .i64 0, .slice none 0 0]) H2x.out 0 (.int .i64 n) rfl) 1 (.slice (some ⟨g, 0, none⟩) xs.length cp) rfl)
      have ne_ : g ≠ t2 := by
        intro e_
        obtain ⟨cs, hc⟩ := own_typed HO.out g rfl
        rw [e_, H2x.out] at hc
        injection hc with hc
        injection hc with _ hc
        exact absurd hc (by decide)
      have HF := Aside0.mk (own_setCell (own_setCell HO.out (p := ⟨t2, 0, none⟩) (fun e_ => ne_ (by injection e_ with e_; exact e_.symm)) (.int .i64 n)) (p := ⟨t2, 1, none⟩) (fun e_ => ne_ (by injection e_ with e_; exact e_.symm)) (.slice (some ⟨g, 0, none⟩) xs.length cp))
      have HBF := Aside0.mk (show Below w.heap.size w ((wx.setCell ⟨t2, 0, none⟩ (.int .i64 n)).setCell ⟨t2, 1, none⟩ (.slice (some ⟨g, 0, none⟩) xs.length cp)) from below_set (below_set HB.out E1.out.2) E1.out.2)
      generalize (wx.setCell ⟨t2, 0, none⟩ (.int .i64 n)).setCell ⟨t2, 1, none⟩ (.slice (some ⟨g, 0, none⟩) xs.length cp) = wz at HT2 HF HBF ⊢
      go_wp2_with fail
      refine bodyPost_ret (results_cell_row rfl _ _ t2 24 #[.int .i64 n, .slice (some ⟨g, 0, none⟩) xs.length cp] (0, 0) _ rfl HT2.out Tryd.underlying24 rfl (by kernel_rfl)) rfl ?_
      exact ⟨g, cp, rfl, HF.out, HBF.out⟩
set_option maxHeartbeats 4000000 in
set_option maxRecDepth 100000 in
theorem kept (k : Nat) (n : Int) (g c : Nat) (A : Option Addr) (c' : Nat) (xs : List Int) (base : Nat) (w : World) (hT : LentIs base w g c xs) (hC : Kd.C (Kd.int .u64) w A xs.length xs) (hl : xs.length ≤ c') (hm : xs.length ≤ 17592186043904) (hS : vivariumref02_Same.f k n xs n xs = some true) :
    Calls Tryd.prog 13 #[.agg #[.int .i64 n, .slice (some ⟨g, 0, none⟩) xs.length c], .agg #[.int .i64 n, .slice A xs.length c']] w fun e w' => e = .returned (.bool true) ∧ Below w.heap.size w w' := by
  have HT := Aside0.mk hT; have HC := Aside0.mk hC; have HL := Aside0.mk hl; have HM := Aside0.mk hm; have HS := Aside0.mk hS
  have hu := Tryd.underlying24
  have q3 : xs.length + 70 ≤ c := hT.cap
  have HLc := Aside0.mk (show xs.length ≤ c by omega)
  have w5_ : wrap64 ((xs.length : Int) + 70) = (xs.length : Int) + 70 := by unfold wrap64; omega
  clear hT hC hl hm hS
  go_enter Tryd.func13, Tryd.ntmps13
  go_wp2_with (first
    | ((with_reducible refine gate_dst (N := 2) rfl ?_); refine box_event ?hg2 (N := 2) ?hd2 (cs := #[.int .i64 n, .slice (some ⟨g, 0, none⟩) xs.length c]) (t := 24) ?hr2 ?_; (case hd2 => rfl); (case hg2 => rfl); (case hr2 => first | (go_simp; done) | (go_simp; rfl)); intro t2 g2 W2 x2 hb2)
    | ((with_reducible refine gate_dst (N := 3) rfl ?_); refine box_event ?hg3 (N := 3) ?hd3 (cs := #[.int .i64 n, .slice A xs.length c']) (t := 24) ?hr3 ?_; (case hd3 => rfl); (case hg3 => rfl); (case hr3 => first | (go_simp; done) | (go_simp; rfl)); intro t3 g3 W3 x3 hb3; have HB := Aside0.mk (chain_ hb2 hb3); have H2x := Aside0.mk ((hb3.block t2 (blk_lt x2)).trans x2); have H3x := Aside0.mk x3; have i0_ := (blk_cell H2x.out 0).trans (show ((#[Value.int .i64 n, Value.slice (some ⟨g, 0, none⟩) xs.length c] : Array Value)[0]?) = some (.int .i64 n) from rfl); have i1_ := (blk_cell H2x.out 1).trans (show ((#[Value.int .i64 n, Value.slice (some ⟨g, 0, none⟩) xs.length c] : Array Value)[1]?) = some (.slice (some ⟨g, 0, none⟩) xs.length c) from rfl); have j0_ := (blk_cell H3x.out 0).trans (show ((#[Value.int .i64 n, Value.slice A xs.length c'] : Array Value)[0]?) = some (.int .i64 n) from rfl); have j1_ := (blk_cell H3x.out 1).trans (show ((#[Value.int .i64 n, Value.slice A xs.length c'] : Array Value)[1]?) = some (.slice A xs.length c') from rfl); clear g2 g3 x2 x3 hb2 hb3)
    | (go_at_call 36; with_reducible refine (vivariumref02_Same.calls k n (some ⟨g, 0, none⟩) c xs n A c' xs true _ (Kd.C_below HT.out.C HB.out) HLc.out (Kd.C_below HC.out HB.out) HL.out HS.out).mono ?_; rintro e wS ⟨rfl, hb⟩; replace i0_ := pw_cell_below hb i0_; replace i1_ := pw_cell_below hb i1_; replace j0_ := pw_cell_below hb j0_; replace j1_ := pw_cell_below hb j1_; have HB2 := Aside0.mk (chain_ HB.out hb); clear hb H2x H3x))
  clear HB
  go_loopg [8] 70 (fun gg s8 wr => wr = wS ∧ ∃ y : Int, s8 = .int .i64 y ∧ Aside0 (0 ≤ y ∧ (gg : Int) = 70 - y))
  case atStart => exact ⟨rfl, 0, rfl, ⟨by omega, by omega⟩⟩
  case round =>
    obtain ⟨rfl, y, rfl, HY⟩ := hrel
    clear i0_ i1_ j0_ j1_
    by_cases q : y < 70
    · have p : 0 ≤ y := HY.out.1
      have w1_ : wrap64 (y + 1) = y + 1 := by unfold wrap64; omega
      have w3_ : wrap64 (7777 + y) = 7777 + y := by unfold wrap64; omega
      have w4_ : IntKind.u64.wrap (7777 + y) = 7777 + y := by unfold IntKind.wrap; simp [IntKind.signed, IntKind.bits]; omega
      have w6_ : wrap64 ((xs.length : Int) + y) = (xs.length : Int) + y := by have := HM.out; unfold wrap64; omega
      have q4 : 0 ≤ (xs.length : Int) + y := by omega
      have q5 : (xs.length : Int) + y < ((xs.length + 70 : Nat) : Int) := by omega
      have q6 : (xs.length : Int) + y < (xs.length : Int) + 70 := by omega
      have c_ : wr.cell? ⟨g, ((xs.length : Int) + y).toNat, none⟩ = some (.int .u64 (7777 + y)) := by
        have h_ := (own_at (pw_own_below HT.out HB2.out) ((xs.length : Int) + y) q4 q5).1
        rwa [rd_tail p q] at h_
      go_wp2_with fail
      go_roundg (70 - (y + 1).toNat)
      case measure => go_light; have := HY.out; omega
      case rel => go_light; exact ⟨rfl, y + 1, by simp [w1_], ⟨by omega, by have := HY.out; omega⟩⟩
    · go_wp2_with fail
      go_ret
      exact ⟨rfl, HB2.out⟩
def wiped (k : Nat) (xs : List Int) : List Int := (xs.take k).map (fun v => Go.bits .xor .u64 v 6148914691236517205) ++ xs.drop k
theorem wiped_length (k : Nat) (xs : List Int) : (wiped k xs).length = xs.length := by simp [wiped]; omega
theorem wiped_zero (xs : List Int) : wiped 0 xs = xs := by simp [wiped]
theorem wiped_all (xs : List Int) : wiped xs.length xs = xs.map (fun v => Go.bits .xor .u64 v 6148914691236517205) := by simp [wiped]
theorem rd_wiped (k : Nat) (xs : List Int) (y : Int) (hy : k = y.toNat) (h : k < xs.length) : rd (wiped k xs) y = xs[k] := by
  subst hy
  unfold rd wiped
  rw [List.getD_eq_getElem?_getD, List.getElem?_append_right (by simp; omega)]
  simp [Nat.min_eq_left (Nat.le_of_lt h), List.getElem?_drop, h]
theorem wiped_set {k : Nat} {xs : List Int} (h : k < xs.length) (y : Int) (hy : k = y.toNat) : (wiped k xs ++ tail 70).set k (Go.bits .xor .u64 (rd (wiped k xs) y) 6148914691236517205) = wiped (k + 1) xs ++ tail 70 := by
  rw [rd_wiped k xs y hy h, List.set_append_left _ _ (by rw [wiped_length]; exact h)]
  congr 1
  unfold wiped
  rw [List.set_append_right _ _ (by simp; omega)]
  simp only [List.length_map, List.length_take, Nat.min_eq_left (Nat.le_of_lt h), Nat.sub_self]
  rw [List.drop_eq_getElem_cons h, List.set_cons_zero, List.take_succ_eq_append_getElem h, List.map_append, List.append_assoc]
  rfl
set_option maxHeartbeats 4000000 in
set_option maxRecDepth 100000 in
theorem wipe (n : Int) (g c : Nat) (xs : List Int) (base : Nat) (w : World) (hT : LentIs base w g c xs) (hb0 : base ≤ w.heap.size) (hm : xs.length ≤ 17592186043904) :
    Calls Tryd.prog 14 #[.agg #[.int .i64 n, .slice (some ⟨g, 0, none⟩) xs.length c]] w fun e w' => e = .returned (.tuple #[]) ∧ LentIs base w' g c (xs.map (fun v => Go.bits .xor .u64 v 6148914691236517205)) ∧ w.grownBy w' (some g) := by
  have HT := Aside0.mk hT; have HM := Aside0.mk hm
  have hu := Tryd.underlying24
  clear hT hm
  go_enter Tryd.func14, Tryd.ntmps14
  go_wp2_with ((with_reducible refine gate_dst (N := 1) rfl ?_); refine box_event ?hg1 (N := 1) ?hd1 (cs := #[.int .i64 n, .slice (some ⟨g, 0, none⟩) xs.length c]) (t := 24) ?hr1 ?_; (case hd1 => rfl); (case hg1 => rfl); (case hr1 => first | (go_simp; done) | (go_simp; rfl)); intro t1 g1 W1 x1 hb1; have HI := Aside0.mk (HT.out.on hb1); have H1x := Aside0.mk x1; have HG := Aside0.mk (grown_of_below hb1 (some g)); clear x1 g1 hb1)
  go_loopg [2] xs.length (fun gg s2 wr => ∃ y : Int, s2 = .int .i64 y ∧ Aside0 (0 ≤ y ∧ (gg : Int) = xs.length - y) ∧ Aside0 (LentIs base wr g c (wiped y.toNat xs)) ∧ Aside0 (wr.heap[t1]? = some (.cells #[.int .i64 n, .slice (some ⟨g, 0, none⟩) xs.length c] 24 (0, 0))) ∧ Aside0 (w.grownBy wr (some g)))
  case atStart => exact ⟨0, rfl, ⟨by omega, by omega⟩, ⟨by rw [show (0 : Int).toNat = 0 from rfl, wiped_zero]; exact HI.out⟩, H1x, HG⟩
  case round =>
    clear HI H1x HG
    obtain ⟨y, rfl, HY, HI, H1x, HG⟩ := hrel
    have i1_ := (blk_cell H1x.out 1).trans (show ((#[Value.int .i64 n, Value.slice (some ⟨g, 0, none⟩) xs.length c] : Array Value)[1]?) = some (.slice (some ⟨g, 0, none⟩) xs.length c) from rfl)
    by_cases q : y < (xs.length : Int)
    · have p : 0 ≤ y := HY.out.1
      have q1 : y < ((wiped y.toNat xs).length : Int) := by rw [wiped_length]; exact q
      have w1_ : wrap64 (y + 1) = y + 1 := by have := HM.out; unfold wrap64; omega
      have c_ := (own_at HI.out.own y p q1).1
      go_wp2_with fail
      clear q1
      have q1 : y < ((wiped y.toNat xs).length : Int) := by rw [wiped_length]; exact q
      refine start_ (n := 11) (S := fun w' => w'.cell? ⟨t1, 1, none⟩ = some (.slice (some ⟨g, 0, none⟩) xs.length c) ∧ w'.cell? ⟨g, y.toNat, none⟩ = some (.int .u64 (rd (wiped y.toNat xs) y))) (ds := [10]) #[false, false, false, false, false, false, false, false, false, false, false] (by kernel_rfl) rfl rfl ⟨i1_, c_⟩ (fun hHeld => ?_)
      replace HI := Aside0.mk (HI.out.on (below_drew (Below.refl wr.heap.size wr)))
      replace H1x := Aside0.mk (blk_drew H1x.out)
      replace HG := Aside0.mk (HG.out.trans (grown_of_below (below_drew (Below.refl wr.heap.size wr)) (some g)))
      clear i1_ c_
      generalize wr.drew = wx at HI H1x HG hHeld ⊢
      refine pure_ (i := 0) (N := (some 10)) (v := ?_) (a' := ?_) #[true, false, false, false, false, false, false, false, false, false, false] rfl rfl (by kernel_rfl) (fun _ _ _ h => h) (Or.inl ⟨by rfl, ?_⟩) ?_ ?_
      rotate_left
      · intro w'
        go_simp
        with_reducible rfl
      rotate_left
      · simp only [Act.put, List.setIfInBounds_toArray, List.set_cons_zero, List.set_cons_succ, i64_w, i32_w]
        rfl
      refine take_ (i := 1) (N := (some 11)) (v := ?_) (a' := ?_) #[true, true, false, false, false, false, false, false, false, false, false] rfl rfl (by kernel_rfl) (fun _ _ _ h => h) (Or.inl ⟨by rfl, ?_⟩) hHeld ?_ ?_
      rotate_left
      · rintro w' ⟨s0, s1⟩
        go_simp
        with_reducible rfl
      rotate_left
      · simp only [Act.put, List.setIfInBounds_toArray, List.set_cons_zero, List.set_cons_succ, i64_w, i32_w]
        rfl
      refine pure_ (i := 2) (N := (some 12)) (v := ?_) (a' := ?_) #[true, true, true, false, false, false, false, false, false, false, false] rfl rfl (by kernel_rfl) (fun _ _ _ h => h) (Or.inl ⟨by rfl, ?_⟩) ?_ ?_
      rotate_left
      · intro w'
        go_simp
        with_reducible rfl
      rotate_left
      · simp only [Act.put, List.setIfInBounds_toArray, List.set_cons_zero, List.set_cons_succ, i64_w, i32_w]
        rfl
      refine pure_ (i := 3) (N := (some 13)) (v := ?_) (a' := ?_) #[true, true, true, true, false, false, false, false, false, false, false] rfl rfl (by kernel_rfl) (fun _ _ _ h => h) (Or.inl ⟨by rfl, ?_⟩) ?_ ?_
      rotate_left
      · intro w'
        go_simp
        with_reducible rfl
      rotate_left
      · simp only [Act.put, List.setIfInBounds_toArray, List.set_cons_zero, List.set_cons_succ, i64_w, i32_w]
        rfl
      refine take_ (i := 4) (N := (some 14)) (v := ?_) (a' := ?_) #[true, true, true, true, true, false, false, false, false, false, false] rfl rfl (by kernel_rfl) (fun _ _ _ h => h) (Or.inl ⟨by rfl, ?_⟩) hHeld ?_ ?_
      rotate_left
      · rintro w' ⟨s0, s1⟩
        go_simp
        with_reducible rfl
      rotate_left
      · simp only [Act.put, List.setIfInBounds_toArray, List.set_cons_zero, List.set_cons_succ, i64_w, i32_w]
        rfl
      refine pure_ (i := 5) (N := (some 15)) (v := ?_) (a' := ?_) #[true, true, true, true, true, true, false, false, false, false, false] rfl rfl (by kernel_rfl) (fun _ _ _ h => h) (Or.inl ⟨by rfl, ?_⟩) ?_ ?_
      rotate_left
      · intro w'
        go_simp
        with_reducible rfl
      rotate_left
      · simp only [Act.put, List.setIfInBounds_toArray, List.set_cons_zero, List.set_cons_succ, i64_w, i32_w]
        rfl
      refine pure_ (i := 6) (N := (some 16)) (v := ?_) (a' := ?_) #[true, true, true, true, true, true, true, false, false, false, false] rfl rfl (by kernel_rfl) (fun _ _ _ h => h) (Or.inl ⟨by rfl, ?_⟩) ?_ ?_
      rotate_left
      · intro w'
        go_simp
        with_reducible rfl
      rotate_left
      · simp only [Act.put, List.setIfInBounds_toArray, List.set_cons_zero, List.set_cons_succ, i64_w, i32_w]
        rfl
      refine take_ (i := 7) (N := (some 17)) (v := ?_) (a' := ?_) #[true, true, true, true, true, true, true, true, false, false, false] rfl rfl (by kernel_rfl) (fun _ _ _ h => h) (Or.inl ⟨by rfl, ?_⟩) hHeld ?_ ?_
      rotate_left
      · rintro w' ⟨s0, s1⟩
        go_simp
        with_reducible rfl
      rotate_left
      · simp only [Act.put, List.setIfInBounds_toArray, List.set_cons_zero, List.set_cons_succ, i64_w, i32_w]
        rfl
      refine pure_ (i := 8) (N := (some 18)) (v := ?_) (a' := ?_) #[true, true, true, true, true, true, true, true, true, false, false] rfl rfl (by kernel_rfl) (fun _ _ _ h => h) (Or.inl ⟨by rfl, ?_⟩) ?_ ?_
      rotate_left
      · intro w'
        go_simp
        with_reducible rfl
      rotate_left
      · simp only [Act.put, List.setIfInBounds_toArray, List.set_cons_zero, List.set_cons_succ, i64_w, i32_w]
        rfl
      refine pure_ (i := 9) (N := (some 19)) (v := ?_) (a' := ?_) #[true, true, true, true, true, true, true, true, true, true, false] rfl rfl (by kernel_rfl) (fun _ _ _ h => h) (Or.inl ⟨by rfl, ?_⟩) ?_ ?_
      rotate_left
      · intro w'
        go_simp
        with_reducible rfl
      rotate_left
      · simp only [Act.put, List.setIfInBounds_toArray, List.set_cons_zero, List.set_cons_succ, i64_w, i32_w]
        rfl
      refine last_ (i := 10) (N := none) #[true, true, true, true, true, true, true, true, true, true, true] rfl rfl (by kernel_rfl) (by decide) (fun K hK => ?_)
      have f0_ := (own_at HI.out.own y p q1).2
      have s0_ := hHeld.2
      refine skip_ (w1 := wx.setCell ⟨g, y.toNat, none⟩ (.int .u64 (Go.bits .xor .u64 (rd (wiped y.toNat xs) y) 6148914691236517205))) (by rfl) rfl ?_ ?_
      · first | (go_simp; done) | (go_simp; rfl)
      refine hK.out _ _ ?_
      clear hK K hHeld s0_ f0_
      refine done_ (by kernel_rfl) ?_
      have HO := Aside0.mk (own_store HI.out y (Go.bits .xor .u64 (rd (wiped y.toNat xs) y) 6148914691236517205))
      have ne_ : t1 ≠ g := by
        intro e_
        obtain ⟨cs, hc⟩ := own_typed HI.out g rfl
        rw [← e_, H1x.out] at hc
        injection hc with hc
        injection hc with _ hc
        exact absurd hc (by decide)
      have H1y := Aside0.mk (blk_far (p := ⟨g, y.toNat, none⟩) H1x.out ne_ (.int .u64 (Go.bits .xor .u64 (rd (wiped y.toNat xs) y) 6148914691236517205)))
      go_wp2_with fail
      go_roundg (xs.length - (y + 1).toNat)
      case measure => go_light; have := HY.out; omega
      case rel =>
        go_light
        refine ⟨y + 1, by simp [w1_], ⟨by omega, by have := HY.out; omega⟩, ⟨?_⟩, H1y, ⟨HG.out.trans HO.out.2⟩⟩
        have h_ := HO.out.1
        rw [wiped_set (by omega) y rfl] at h_
        rw [show (y + 1).toNat = y.toNat + 1 by omega]
        unfold LentIs
        rw [wiped_length] at h_ ⊢
        exact h_
    · have hy : y.toNat = xs.length := by have := HY.out; omega
      go_wp2_with fail
      go_end0
      refine ⟨rfl, ?_, HG.out⟩
      have h_ := HI.out
      rwa [hy, wiped_all] at h_
end Go.Proofs.YtlghmadoogblcaaDoor.Lent
end
section
namespace Go.Proofs.YtlghmadoogblcaaDoor.PW
open Go.RowKit Go.Proofs.YtlghmadoogblcaaDoorW.PrintWords Go.Proofs.YtlghmadoogblcaaDoorW.PrintLast Go.Proofs.YtlghmadoogblcaaDoorW.PrintMore
attribute [local go_sem] max2_int min2_int max_two min_two max_three min_three max_four min_four   -- for this text's walks alone
set_option linter.unusedVariables false
set_option linter.unusedSimpArgs false
def vivariumlaw02_alive.f (k : Nat)  : Option (Bool) := (words_Of.f k (([true, false, true] : List Bool))).bind fun bt204 => ((words_Up.f k bt204.1 bt204.2.1 true).bind fun bt210 => ((words_Ones.f k bt210.1 bt210.2.1).bind fun bt217 => ((words_Half.f 12 10).bind fun bt219 => (if bt204.2.2 = 0 then (if bt210.2.2.2 = 0 then (if bt217.2 = 0 then (if bt204.1 = 3 then (if (bt204.2.1.length : Int) = 1 then (if 0 < (bt204.2.1.length : Int) then (if (rd bt204.2.1 0) = 5 then (if bt210.2.2.1 = true then (if bt217.1 = 2 then ((words_Get.f bt210.1 bt210.2.1 1).bind fun t222 => (if t222 = true then ((words_Get.f bt210.1 bt210.2.1 2).bind fun t223 => (if t223 = true then (some false) else (if bt219.1 = 6 then (some (bt219.2 == 8)) else (some false)))) else (some false))) else (some false)) else (some false)) else (some false)) else (none)) else (some false)) else (some false)) else (some false)) else (some false)) else (some false)))))
theorem vivariumlaw02_alive.mono : ∀ k, LeO (vivariumlaw02_alive.f k ) (vivariumlaw02_alive.f (k + 1) ) := by
  intro  k
  unfold vivariumlaw02_alive.f
  repeat' first
      | (with_reducible exact words_Of.mono _ _)
      | (with_reducible exact words_Ones.mono _ _ _)
      | (with_reducible exact words_Up.mono _ _ _ _)
      | (with_reducible exact LeO.refl _)
      | (with_reducible exact LeO.none _)
      | (with_reducible refine LeO.ite ?_ ?_)
      | (with_reducible refine LeO.bind ?_ (fun _ => ?_))
      | exact words_Of.mono _ _
      | exact words_Ones.mono _ _ _
      | exact words_Up.mono _ _ _ _
      | exact LeO.none _
      | refine LeO.ite ?_ ?_
      | refine LeO.bind ?_ (fun _ => ?_)
set_option maxHeartbeats 8000000 in
set_option maxRecDepth 100000 in
theorem vivariumlaw02_alive.calls (k : Nat)  (r : Bool) (w : World) (hrt_ : r = true) (h : vivariumlaw02_alive.f k  = some r) :
    Calls Tryd.prog 7 #[] w fun e w' => e = .returned (.bool r) ∧ Below w.heap.size w w' := by
  have hu31 := Tryd.underlying24
  have HB := Aside0.mk (Below.refl w.heap.size w)
  have H : ((words_Of.f k (([true, false, true] : List Bool))).bind fun bt204 => ((words_Up.f k bt204.1 bt204.2.1 true).bind fun bt210 => ((words_Ones.f k bt210.1 bt210.2.1).bind fun bt217 => ((words_Half.f 12 10).bind fun bt219 => (if bt204.2.2 = 0 then (if bt210.2.2.2 = 0 then (if bt217.2 = 0 then (if bt204.1 = 3 then (if (bt204.2.1.length : Int) = 1 then (if 0 < (bt204.2.1.length : Int) then (if (rd bt204.2.1 0) = 5 then (if bt210.2.2.1 = true then (if bt217.1 = 2 then ((words_Get.f bt210.1 bt210.2.1 1).bind fun t222 => (if t222 = true then ((words_Get.f bt210.1 bt210.2.1 2).bind fun t223 => (if t223 = true then (some false) else (if bt219.1 = 6 then (some (bt219.2 == 8)) else (some false)))) else (some false))) else (some false)) else (some false)) else (some false)) else (none)) else (some false)) else (some false)) else (some false)) else (some false)) else (some false)))))) = some r := h
  clear h
  obtain ⟨y201, hy201⟩ : ∃ y_ : List Bool, y_ = (([true, false, true] : List Bool)) := ⟨_, rfl⟩
  replace H : ((words_Of.f k y201).bind fun bt204 => ((words_Up.f k bt204.1 bt204.2.1 true).bind fun bt210 => ((words_Ones.f k bt210.1 bt210.2.1).bind fun bt217 => ((words_Half.f 12 10).bind fun bt219 => (if bt204.2.2 = 0 then (if bt210.2.2.2 = 0 then (if bt217.2 = 0 then (if bt204.1 = 3 then (if (bt204.2.1.length : Int) = 1 then (if 0 < (bt204.2.1.length : Int) then (if (rd bt204.2.1 0) = 5 then (if bt210.2.2.1 = true then (if bt217.1 = 2 then ((words_Get.f bt210.1 bt210.2.1 1).bind fun t222 => (if t222 = true then ((words_Get.f bt210.1 bt210.2.1 2).bind fun t223 => (if t223 = true then (some false) else (if bt219.1 = 6 then (some (bt219.2 == 8)) else (some false)))) else (some false))) else (some false)) else (some false)) else (some false)) else (none)) else (some false)) else (some false)) else (some false)) else (some false)) else (some false)))))) = some r := by first | (rw [hy201]; with_reducible exact H) | (have H2_ := (Option.bind_some _ _).symm.trans H; rw [hy201]; with_reducible exact H2_) | (have H2_ := (Option.bind_some _ _).symm.trans H; with_reducible exact H2_) | with_reducible exact H | (rw [hy201]; exact H) | exact H
  have Ny201 := Aside0.mk hy201
  clear hy201
  replace H := Option.bind_eq_some_iff.mp H
  obtain ⟨⟨t204, t205, t208⟩, A10, H⟩ := H
  replace H : ((words_Up.f k t204 t205 true).bind fun bt210 => ((words_Ones.f k bt210.1 bt210.2.1).bind fun bt217 => ((words_Half.f 12 10).bind fun bt219 => (if t208 = 0 then (if bt210.2.2.2 = 0 then (if bt217.2 = 0 then (if t204 = 3 then (if (t205.length : Int) = 1 then (if 0 < (t205.length : Int) then (if (rd t205 0) = 5 then (if bt210.2.2.1 = true then (if bt217.1 = 2 then ((words_Get.f bt210.1 bt210.2.1 1).bind fun t222 => (if t222 = true then ((words_Get.f bt210.1 bt210.2.1 2).bind fun t223 => (if t223 = true then (some false) else (if bt219.1 = 6 then (some (bt219.2 == 8)) else (some false)))) else (some false))) else (some false)) else (some false)) else (some false)) else (none)) else (some false)) else (some false)) else (some false)) else (some false)) else (some false))))) = some r := H
  have A1 := Aside0.mk A10
  clear A10
  replace H := Option.bind_eq_some_iff.mp H
  obtain ⟨⟨t210, t211, t214, t215⟩, A20, H⟩ := H
  replace H : ((words_Ones.f k t210 t211).bind fun bt217 => ((words_Half.f 12 10).bind fun bt219 => (if t208 = 0 then (if t215 = 0 then (if bt217.2 = 0 then (if t204 = 3 then (if (t205.length : Int) = 1 then (if 0 < (t205.length : Int) then (if (rd t205 0) = 5 then (if t214 = true then (if bt217.1 = 2 then ((words_Get.f t210 t211 1).bind fun t222 => (if t222 = true then ((words_Get.f t210 t211 2).bind fun t223 => (if t223 = true then (some false) else (if bt219.1 = 6 then (some (bt219.2 == 8)) else (some false)))) else (some false))) else (some false)) else (some false)) else (some false)) else (none)) else (some false)) else (some false)) else (some false)) else (some false)) else (some false)))) = some r := H
  have A2 := Aside0.mk A20
  clear A20
  replace H := Option.bind_eq_some_iff.mp H
  obtain ⟨⟨t217, t218⟩, A30, H⟩ := H
  replace H : ((words_Half.f 12 10).bind fun bt219 => (if t208 = 0 then (if t215 = 0 then (if t218 = 0 then (if t204 = 3 then (if (t205.length : Int) = 1 then (if 0 < (t205.length : Int) then (if (rd t205 0) = 5 then (if t214 = true then (if t217 = 2 then ((words_Get.f t210 t211 1).bind fun t222 => (if t222 = true then ((words_Get.f t210 t211 2).bind fun t223 => (if t223 = true then (some false) else (if bt219.1 = 6 then (some (bt219.2 == 8)) else (some false)))) else (some false))) else (some false)) else (some false)) else (some false)) else (none)) else (some false)) else (some false)) else (some false)) else (some false)) else (some false))) = some r := H
  have A3 := Aside0.mk A30
  clear A30
  replace H := Option.bind_eq_some_iff.mp H
  obtain ⟨⟨t219, t220⟩, A40, H⟩ := H
  replace H : (if t208 = 0 then (if t215 = 0 then (if t218 = 0 then (if t204 = 3 then (if (t205.length : Int) = 1 then (if 0 < (t205.length : Int) then (if (rd t205 0) = 5 then (if t214 = true then (if t217 = 2 then ((words_Get.f t210 t211 1).bind fun t222 => (if t222 = true then ((words_Get.f t210 t211 2).bind fun t223 => (if t223 = true then (some false) else (if t219 = 6 then (some (t220 == 8)) else (some false)))) else (some false))) else (some false)) else (some false)) else (some false)) else (none)) else (some false)) else (some false)) else (some false)) else (some false)) else (some false)) = some r := H
  have A4 := Aside0.mk A40
  clear A40
  by_cases c5 : t208 = 0
  · rw [if_pos c5] at H
    have c5b0 : (t208 == 0) = true := beq_iff_eq.mpr c5
    have c5b1 : (t208 != 0) = false := bne_eq_false_iff_eq.mpr c5
    clear c5
    by_cases c6 : t215 = 0
    · rw [if_pos c6] at H
      have c6b0 : (t215 == 0) = true := beq_iff_eq.mpr c6
      have c6b1 : (t215 != 0) = false := bne_eq_false_iff_eq.mpr c6
      clear c6
      by_cases c7 : t218 = 0
      · rw [if_pos c7] at H
        have c7b0 : (t218 == 0) = true := beq_iff_eq.mpr c7
        have c7b1 : (t218 != 0) = false := bne_eq_false_iff_eq.mpr c7
        clear c7
        by_cases c8 : t204 = 3
        · rw [if_pos c8] at H
          have c8b0 : (t204 == 3) = true := beq_iff_eq.mpr c8
          have c8b1 : (t204 != 3) = false := bne_eq_false_iff_eq.mpr c8
          clear c8
          by_cases c9 : (t205.length : Int) = 1
          · rw [if_pos c9] at H
            have c9b0 : ((t205.length : Int) == 1) = true := beq_iff_eq.mpr c9
            have c9b1 : ((t205.length : Int) != 1) = false := bne_eq_false_iff_eq.mpr c9
            clear c9
            by_cases c10 : 0 < (t205.length : Int)
            · rw [if_pos c10] at H
              have c10b0 : decide (0 < (t205.length : Int)) = true := decide_eq_true c10
              have c10b1 : decide (0 < t205.length) = true := decide_eq_true (by omega)
              clear c10
              by_cases c11 : (rd t205 0) = 5
              · rw [if_pos c11] at H
                have c11b0 : ((rd t205 0) == 5) = true := beq_iff_eq.mpr c11
                have c11b1 : ((rd t205 0) != 5) = false := bne_eq_false_iff_eq.mpr c11
                clear c11
                by_cases c12 : t214 = true
                · subst c12
                  have H1 : (if t217 = 2 then ((words_Get.f t210 t211 1).bind fun t222 => (if t222 = true then ((words_Get.f t210 t211 2).bind fun t223 => (if t223 = true then (some false) else (if t219 = 6 then (some (t220 == 8)) else (some false)))) else (some false))) else (some false)) = some r := by rw [if_pos rfl] at H; exact H
                  clear H
                  have H := H1
                  clear H1
                  by_cases c13 : t217 = 2
                  · rw [if_pos c13] at H
                    have c13b0 : (t217 == 2) = true := beq_iff_eq.mpr c13
                    have c13b1 : (t217 != 2) = false := bne_eq_false_iff_eq.mpr c13
                    clear c13
                    replace H := Option.bind_eq_some_iff.mp H
                    obtain ⟨t222, A140, H⟩ := H
                    replace H : (if t222 = true then ((words_Get.f t210 t211 2).bind fun t223 => (if t223 = true then (some false) else (if t219 = 6 then (some (t220 == 8)) else (some false)))) else (some false)) = some r := H
                    have A14 := Aside0.mk A140
                    clear A140
                    by_cases c15 : t222 = true
                    · subst c15
                      have H1 : ((words_Get.f t210 t211 2).bind fun t223 => (if t223 = true then (some false) else (if t219 = 6 then (some (t220 == 8)) else (some false)))) = some r := by rw [if_pos rfl] at H; exact H
                      clear H
                      have H := H1
                      clear H1
                      replace H := Option.bind_eq_some_iff.mp H
                      obtain ⟨t223, A160, H⟩ := H
                      replace H : (if t223 = true then (some false) else (if t219 = 6 then (some (t220 == 8)) else (some false))) = some r := H
                      have A16 := Aside0.mk A160
                      clear A160
                      by_cases c17 : t223 = true
                      · subst c17
                        have H1 : (some false) = some r := by rw [if_pos rfl] at H; exact H
                        exact absurd (Option.some.inj H1) (by rw [hrt_]; decide)
                      · replace c17 := Bool.eq_false_iff.mpr c17
                        subst c17
                        have H1 : (if t219 = 6 then (some (t220 == 8)) else (some false)) = some r := by rw [if_neg (show ¬ (false = true) by decide)] at H; exact H
                        clear H
                        have H := H1
                        clear H1
                        by_cases c36 : t219 = 6
                        · rw [if_pos c36] at H
                          have c36b0 : (t219 == 6) = true := beq_iff_eq.mpr c36
                          have c36b1 : (t219 != 6) = false := bne_eq_false_iff_eq.mpr c36
                          clear c36
                          obtain rfl := Option.some.inj H
                          go_enter Tryd.func7, Tryd.ntmps7
                          go_wp2_with (first | ((with_reducible refine gate_dst (N := 11) rfl ?_); (try (refine gate_guard (by rfl) ?_; dsimp only)); refine Kd.R_lit Kd.bool _ 4 ?hg (N := 11) ?hd (xs := ([true, false, true] : List Bool)) (inner := [.bool true, .bool false, .bool true]) (ok := fun _ => True) (okp := fun _ => True) ?hr ?hp (fun _ hk => hk) trivial (Below.refl _ _) (Nat.le_refl _) (by simp) ?_; (case hd => rfl); (case hg => rfl); (case hr => first | (go_simp; done) | (go_simp; rfl)); (case hp => exact (Reps.one (show Kd.M Kd.bool _ _ _ true [.bool true] from rfl) (Reps.one (show Kd.M Kd.bool _ _ _ false [.bool false] from rfl) (Reps.one (show Kd.M Kd.bool _ _ _ true [.bool true] from rfl) (Reps.none _ _))))); intro v202 w37 ho38 hb hg_ hnew_; clear hg_ hnew_; (first | rw [← Ny201.out] at ho38 | (simp only [Int.reduceToNat] at ho38; rw [← Ny201.out] at ho38)); have n0_ := Aside0.mk (Kd.R_lower ho38 (below_size (by repeat (first | (with_reducible first | exact HB.out | apply below_alloc | apply pw_below_drewN | apply below_drew1) | exact HB.out)))); have n1_ := Aside0.mk (below_step (by repeat (first | (with_reducible first | exact HB.out | apply below_alloc | apply pw_below_drewN | apply below_drew1) | exact HB.out)) hb); clear HB; have HO203 := n0_; have HB := n1_; clear n0_ n1_; clear hb ho38; obtain ⟨Ao39, co39, eo39⟩ := Kd.R_slice HO203.out; subst eo39) | ((with_reducible refine gate_callee (f := 26) rfl ?_); refine goesL_ (some 12) rfl rfl Tryd.func26 (by kernel_rfl) rfl #[.slice Ao39 y201.length co39] rfl (by (try simp only [List.map_toArray, List.map_cons, List.map_nil]); first | done | rfl | (simp only [List.length_drop, List.length_take]; rfl)) ?_; (with_reducible refine (words_Of.calls k _ _ y201 t204 t205 t208 _ ?side1 ?side2 A1.out).mono ?_); (case side1 => repeat (first | exact (Kd.R_reads' HO203.out).2.2 | (with_reducible refine Kd.C_alloc ?_ _) | (with_reducible refine Kd.C_drewN ?_ _) | (with_reducible refine Kd.C_drew ?_))); (case side2 => exact (Kd.R_reads' HO203.out).2.1); rintro e w40 ⟨v206, rfl, ho0, hb⟩; refine ⟨_, rfl, ?_⟩; have n0_ := Aside0.mk (Kd.R_below (by (with_reducible repeat (first | apply Kd.R_alloc | apply Kd.R_drewN | apply Kd.R_drew)); exact HO203.out) hb); have n1_ := Aside0.mk (Kd.R_lower ho0 (below_size (by repeat (first | (with_reducible first | exact HB.out | apply below_alloc | apply pw_below_drewN | apply below_drew1) | exact HB.out)))); have n2_ := Aside0.mk (below_step (by repeat (first | (with_reducible first | exact HB.out | apply below_alloc | apply pw_below_drewN | apply below_drew1) | exact HB.out)) hb); clear HO203; clear HB; have HO203 := n0_; have HO207 := n1_; have HB := n2_; clear n0_ n1_ n2_; (try clear hb); (try clear hb2); (try clear hk); (try clear hi); (try clear ho0)) | ((with_reducible refine gate_dst (N := 1) rfl ?_); (try (refine gate_guard (by rfl) ?_; dsimp only)); refine box_event ?hg (N := 1) ?hd (cs := #[.int .i64 0, .slice none 0 0]) (t := 24) ?hr ?_; (case hd => rfl); (case hg => rfl); (case hr => first | (go_simp; done) | (go_simp; rfl)); intro gb209 hg w41 hbox hb; have n0_ := Aside0.mk (Kd.R_below (by (with_reducible repeat (first | apply Kd.R_alloc | apply Kd.R_drewN | apply Kd.R_drew)); exact HO203.out) hb); have n1_ := Aside0.mk (Kd.R_below (by (with_reducible repeat (first | apply Kd.R_alloc | apply Kd.R_drewN | apply Kd.R_drew)); exact HO207.out) hb); have n2_ := Aside0.mk (below_step (by repeat (first | (with_reducible first | exact HB.out | apply below_alloc | apply pw_below_drewN | apply below_drew1) | exact HB.out)) hb); have n3_ := Aside0.mk (hbox); have n4_ := Aside0.mk ((by rw [hg]; exact (below_size (by repeat (first | (with_reducible first | exact HB.out | apply below_alloc | apply pw_below_drewN | apply below_drew1) | exact HB.out))) : w.heap.size ≤ gb209)); have n5_ := Aside0.mk ((by rw [hg]; exact (below_size (by repeat (first | (with_reducible first | exact HB.out | apply below_alloc | apply pw_below_drewN | apply below_drew1) | exact HB.out))) : w.heap.size ≤ gb209)); clear HO203; clear HO207; clear HB; have HO203 := n0_; have HO207 := n1_; have HB := n2_; have BK209 := n3_; have GW209 := n4_; have GE209 := n5_; clear n0_ n1_ n2_ n3_ n4_ n5_; clear hb hbox hg; have hcz42_0 : w41.cell? ⟨gb209, 0, none⟩ = some (.int .i64 0) := (blk_cell BK209.out 0).trans rfl; have hcz42_1 : w41.cell? ⟨gb209, 1, none⟩ = some (.slice none 0 0) := (blk_cell BK209.out 1).trans rfl; have hfz42_0 := blk_frozen BK209.out 0; have hfz42_1 := blk_frozen BK209.out 1; obtain ⟨Ao43, co43, eo43⟩ := Kd.R_slice HO207.out; subst eo43) | ((with_reducible refine gate_callee (f := 19) rfl ?_); refine goesL_ (some 17) rfl rfl Tryd.func19 (by kernel_rfl) rfl #[.agg #[.int .i64 t204, .slice Ao43 t205.length co43], .bool true] rfl (by (try simp only [List.map_toArray, List.map_cons, List.map_nil]); first | done | rfl | (simp only [List.length_drop, List.length_take]; rfl)) ?_; (with_reducible refine (words_Up.calls k t204 _ _ t205 true t210 t211 true t215 _ ?side1 ?side2 A2.out).mono ?_); (case side1 => refine (Kd.R_reads' (e := 58) (base := w.heap.size) (ok := fun k_ => True) (n := t205.length) (c := co43) ?_).2.2; exact (by (with_reducible repeat (first | apply Kd.R_alloc | apply Kd.R_drewN | apply Kd.R_drew)); exact (Kd.R_mono (Kd.R_far (p := ⟨gb209, 1, none⟩) (Kd.R_far (p := ⟨gb209, 0, none⟩) (Kd.R_types HO207.out BK209.out (by decide)) (fun _ hk => hk.2) (.int .i64 t204)) (fun _ hk => hk.2) (.slice Ao43 t205.length co43)) (fun _ h_ => h_.1)))); (case side2 => exact (Kd.R_reads' HO207.out).2.1); rintro e w44 ⟨v212, rfl, ho0, hb⟩; refine ⟨_, rfl, ?_⟩; have n0_ := Aside0.mk (Kd.R_below (by (with_reducible repeat (first | apply Kd.R_alloc | apply Kd.R_drewN | apply Kd.R_drew)); exact (Kd.R_mono (Kd.R_far (p := ⟨gb209, 1, none⟩) (Kd.R_far (p := ⟨gb209, 0, none⟩) (Kd.R_types HO203.out BK209.out (by decide)) (fun _ hk => hk.2) (.int .i64 t204)) (fun _ hk => hk.2) (.slice Ao43 t205.length co43)) (fun _ h_ => h_.1))) hb); have n1_ := Aside0.mk (Kd.R_elder' (by (with_reducible repeat (first | apply Kd.R_alloc | apply Kd.R_drewN | apply Kd.R_drew)); exact (Kd.R_mono (Kd.R_far (p := ⟨gb209, 1, none⟩) (Kd.R_far (p := ⟨gb209, 0, none⟩) (Kd.R_types HO207.out BK209.out (by decide)) (fun _ hk => hk.2) (.int .i64 t204)) (fun _ hk => hk.2) (.slice Ao43 t205.length co43)) (fun _ h_ => h_.1))) (Kd.R_base ho0) hb); have n2_ := Aside0.mk (Kd.R_lower (Kd.R_new' ho0 (Kd.R_lt (by (with_reducible repeat (first | apply Kd.R_alloc | apply Kd.R_drewN | apply Kd.R_drew)); exact (Kd.R_mono (Kd.R_far (p := ⟨gb209, 1, none⟩) (Kd.R_far (p := ⟨gb209, 0, none⟩) (Kd.R_types HO207.out BK209.out (by decide)) (fun _ hk => hk.2) (.int .i64 t204)) (fun _ hk => hk.2) (.slice Ao43 t205.length co43)) (fun _ h_ => h_.1))))) (below_size (by repeat (first | (with_reducible first | exact HB.out | apply below_alloc | apply pw_below_drewN | apply below_drew1 | refine below_set ?_ GE209.out) | exact HB.out)))); have n3_ := Aside0.mk (blk_below (g := gb209) (o := .cells #[.int .i64 t204, .slice Ao43 t205.length co43] 24 (0, 0)) (by (with_reducible repeat (first | refine blk_drewN ?_ _ | refine blk_drew ?_ | refine blk_alloc ?_ _)); refine blk_put (cs := #[.int .i64 t204, .slice none 0 0]) ?_ 1 _ rfl; (with_reducible repeat (first | refine blk_drewN ?_ _ | refine blk_drew ?_ | refine blk_alloc ?_ _)); refine blk_put (cs := #[.int .i64 0, .slice none 0 0]) ?_ 0 _ rfl; (with_reducible repeat (first | refine blk_drewN ?_ _ | refine blk_drew ?_ | refine blk_alloc ?_ _)); exact BK209.out) hb); have n4_ := Aside0.mk (below_step (by repeat (first | (with_reducible first | exact HB.out | apply below_alloc | apply pw_below_drewN | apply below_drew1 | refine below_set ?_ GE209.out) | exact HB.out)) hb); clear HO203; clear HO207; clear BK209; clear HB; have HO203 := n0_; have HO207 := n1_; have HO213 := n2_; have BK209 := n3_; have HB := n4_; clear n0_ n1_ n2_ n3_ n4_; (try clear hb); (try clear hb2); (try clear hk); (try clear hi); (try clear ho0)) | ((with_reducible refine gate_dst (N := 3) rfl ?_); (try (refine gate_guard (by rfl) ?_; dsimp only)); refine box_event ?hg (N := 3) ?hd (cs := #[.int .i64 0, .slice none 0 0]) (t := 24) ?hr ?_; (case hd => rfl); (case hg => rfl); (case hr => first | (go_simp; done) | (go_simp; rfl)); intro gb216 hg w45 hbox hb; have n0_ := Aside0.mk (Kd.R_below (by (with_reducible repeat (first | apply Kd.R_alloc | apply Kd.R_drewN | apply Kd.R_drew)); exact HO203.out) hb); have n1_ := Aside0.mk (Kd.R_below (by (with_reducible repeat (first | apply Kd.R_alloc | apply Kd.R_drewN | apply Kd.R_drew)); exact HO207.out) hb); have n2_ := Aside0.mk (Kd.R_below (by (with_reducible repeat (first | apply Kd.R_alloc | apply Kd.R_drewN | apply Kd.R_drew)); exact HO213.out) hb); have n3_ := Aside0.mk (blk_below (g := gb209) (o := .cells #[.int .i64 t204, .slice Ao43 t205.length co43] 24 (0, 0)) (by (with_reducible repeat (first | refine blk_drewN ?_ _ | refine blk_drew ?_ | refine blk_alloc ?_ _)); exact BK209.out) hb); have n4_ := Aside0.mk (below_step (by repeat (first | (with_reducible first | exact HB.out | apply below_alloc | apply pw_below_drewN | apply below_drew1 | refine below_set ?_ GE209.out) | exact HB.out)) hb); have n5_ := Aside0.mk (hbox); have n6_ := Aside0.mk ((by rw [hg]; exact (below_size (by repeat (first | (with_reducible first | exact HB.out | apply below_alloc | apply pw_below_drewN | apply below_drew1 | refine below_set ?_ GE209.out) | exact HB.out))) : w.heap.size ≤ gb216)); have n7_ := Aside0.mk ((by rw [hg]; exact (below_size (by repeat (first | (with_reducible first | exact HB.out | apply below_alloc | apply pw_below_drewN | apply below_drew1 | refine below_set ?_ GE209.out) | exact HB.out))) : w.heap.size ≤ gb216)); have n8_ := Aside0.mk ((by rw [hg]; exact Nat.ne_of_lt (blk_lt (g := gb209) (o := .cells #[.int .i64 t204, .slice Ao43 t205.length co43] 24 (0, 0)) (by (with_reducible repeat (first | refine blk_drewN ?_ _ | refine blk_drew ?_ | refine blk_alloc ?_ _)); exact BK209.out)) : gb209 ≠ gb216)); have n9_ := Aside0.mk ((by rw [hg]; exact Nat.ne_of_gt (blk_lt (g := gb209) (o := .cells #[.int .i64 t204, .slice Ao43 t205.length co43] 24 (0, 0)) (by (with_reducible repeat (first | refine blk_drewN ?_ _ | refine blk_drew ?_ | refine blk_alloc ?_ _)); exact BK209.out)) : gb216 ≠ gb209)); clear HO203; clear HO207; clear HO213; clear BK209; clear HB; have HO203 := n0_; have HO207 := n1_; have HO213 := n2_; have BK209 := n3_; have HB := n4_; have BK216 := n5_; have GW216 := n6_; have GE216 := n7_; have NB209_216 := n8_; have NB216_209 := n9_; clear n0_ n1_ n2_ n3_ n4_ n5_ n6_ n7_ n8_ n9_; clear hb hbox hg; have hnb46 := NB216_209.out; have hnc46 := NB209_216.out; have hcz47_0 : w45.cell? ⟨gb216, 0, none⟩ = some (.int .i64 0) := (blk_cell BK216.out 0).trans rfl; have hcz47_1 : w45.cell? ⟨gb216, 1, none⟩ = some (.slice none 0 0) := (blk_cell BK216.out 1).trans rfl; have hfz47_0 := blk_frozen BK216.out 0; have hfz47_1 := blk_frozen BK216.out 1; obtain ⟨Ao48, co48, eo48⟩ := Kd.R_slice HO213.out; subst eo48) | ((with_reducible refine gate_callee (f := 10) rfl ?_); refine goesL_ (some 23) rfl rfl Tryd.func10 (by kernel_rfl) rfl #[.agg #[.int .i64 t210, .slice Ao48 t211.length co48]] rfl (by (try simp only [List.map_toArray, List.map_cons, List.map_nil]); first | done | rfl | (simp only [List.length_drop, List.length_take]; rfl)) ?_; (with_reducible refine (words_Ones.calls k t210 _ _ t211 t217 t218 _ ?side1 ?side2 A3.out).mono ?_); (case side1 => refine (Kd.R_reads' (e := 58) (base := w.heap.size) (ok := fun k_ => (True ∧ some k_ ≠ (.slice Ao43 t205.length co43 : Value).ownBlock)) (n := t211.length) (c := co48) ?_).2.2; exact (by (with_reducible repeat (first | apply Kd.R_alloc | apply Kd.R_drewN | apply Kd.R_drew)); exact (Kd.R_mono (Kd.R_far (p := ⟨gb216, 1, none⟩) (Kd.R_far (p := ⟨gb216, 0, none⟩) (Kd.R_types HO213.out BK216.out (by decide)) (fun _ hk => hk.2) (.int .i64 t210)) (fun _ hk => hk.2) (.slice Ao48 t211.length co48)) (fun _ h_ => h_.1)))); (case side2 => exact (Kd.R_reads' HO213.out).2.1); rintro e w49 ⟨rfl, hb⟩; refine ⟨_, rfl, ?_⟩; have n0_ := Aside0.mk (Kd.R_below (by (with_reducible repeat (first | apply Kd.R_alloc | apply Kd.R_drewN | apply Kd.R_drew)); exact (Kd.R_mono (Kd.R_far (p := ⟨gb216, 1, none⟩) (Kd.R_far (p := ⟨gb216, 0, none⟩) (Kd.R_types HO203.out BK216.out (by decide)) (fun _ hk => hk.2) (.int .i64 t210)) (fun _ hk => hk.2) (.slice Ao48 t211.length co48)) (fun _ h_ => h_.1))) hb); have n1_ := Aside0.mk (Kd.R_below (by (with_reducible repeat (first | apply Kd.R_alloc | apply Kd.R_drewN | apply Kd.R_drew)); exact (Kd.R_mono (Kd.R_far (p := ⟨gb216, 1, none⟩) (Kd.R_far (p := ⟨gb216, 0, none⟩) (Kd.R_types HO207.out BK216.out (by decide)) (fun _ hk => hk.2) (.int .i64 t210)) (fun _ hk => hk.2) (.slice Ao48 t211.length co48)) (fun _ h_ => h_.1))) hb); have n2_ := Aside0.mk (Kd.R_below (by (with_reducible repeat (first | apply Kd.R_alloc | apply Kd.R_drewN | apply Kd.R_drew)); exact (Kd.R_mono (Kd.R_far (p := ⟨gb216, 1, none⟩) (Kd.R_far (p := ⟨gb216, 0, none⟩) (Kd.R_types HO213.out BK216.out (by decide)) (fun _ hk => hk.2) (.int .i64 t210)) (fun _ hk => hk.2) (.slice Ao48 t211.length co48)) (fun _ h_ => h_.1))) hb); have n3_ := Aside0.mk (blk_below (g := gb209) (o := .cells #[.int .i64 t204, .slice Ao43 t205.length co43] 24 (0, 0)) (by (with_reducible repeat (first | refine blk_drewN ?_ _ | refine blk_drew ?_ | refine blk_alloc ?_ _)); refine blk_far ?_ NB209_216.out _; (with_reducible repeat (first | refine blk_drewN ?_ _ | refine blk_drew ?_ | refine blk_alloc ?_ _)); refine blk_far ?_ NB209_216.out _; (with_reducible repeat (first | refine blk_drewN ?_ _ | refine blk_drew ?_ | refine blk_alloc ?_ _)); exact BK209.out) hb); have n4_ := Aside0.mk (blk_below (g := gb216) (o := .cells #[.int .i64 t210, .slice Ao48 t211.length co48] 24 (0, 0)) (by (with_reducible repeat (first | refine blk_drewN ?_ _ | refine blk_drew ?_ | refine blk_alloc ?_ _)); refine blk_put (cs := #[.int .i64 t210, .slice none 0 0]) ?_ 1 _ rfl; (with_reducible repeat (first | refine blk_drewN ?_ _ | refine blk_drew ?_ | refine blk_alloc ?_ _)); refine blk_put (cs := #[.int .i64 0, .slice none 0 0]) ?_ 0 _ rfl; (with_reducible repeat (first | refine blk_drewN ?_ _ | refine blk_drew ?_ | refine blk_alloc ?_ _)); exact BK216.out) hb); have n5_ := Aside0.mk (below_step (by repeat (first | (with_reducible first | exact HB.out | apply below_alloc | apply pw_below_drewN | apply below_drew1 | refine below_set ?_ GE209.out | refine below_set ?_ GE216.out) | exact HB.out)) hb); clear HO203; clear HO207; clear HO213; clear BK209; clear BK216; clear HB; have HO203 := n0_; have HO207 := n1_; have HO213 := n2_; have BK209 := n3_; have BK216 := n4_; have HB := n5_; clear n0_ n1_ n2_ n3_ n4_ n5_; (try clear hb); (try clear hb2); (try clear hk); (try clear hi)) | ((with_reducible refine gate_callee (f := 27) rfl ?_); refine goesL_ (some 27) rfl rfl Tryd.func27 (by kernel_rfl) rfl #[.int .u64 12, .int .u64 10] rfl (by (try simp only [List.map_toArray, List.map_cons, List.map_nil]); first | done | rfl | (simp only [List.length_drop, List.length_take]; rfl)) ?_; (with_reducible refine (words_Half.calls 12 10 t219 t220 _ A4.out).mono ?_); rintro e w' ⟨rfl, ⟨nd, rfl⟩⟩; refine ⟨_, rfl, ?_⟩; have hcz50_0 : w49.cell? ⟨gb209, 0, none⟩ = some (.int .i64 t204) := (blk_cell BK209.out 0).trans rfl; have hcz50_1 : w49.cell? ⟨gb209, 1, none⟩ = some (.slice Ao43 t205.length co43) := (blk_cell BK209.out 1).trans rfl; have hfz50_0 := blk_frozen BK209.out 0; have hfz50_1 := blk_frozen BK209.out 1; have p221 : 0 ≤ (0 : Int) := (by omega); have q221 : 0 < (t205.length : Int) := of_decide_eq_true (by first | (with_reducible assumption) | assumption); obtain ⟨ad221, e221, hx221_0⟩ := Kd.at_int (Kd.R_reads' HO207.out).2.2 0 p221 q221; cases e221; have qi221 : (0 < t205.length) = True := eq_true (by omega); (try rw [show ((0 : Int)).toNat = 0 from rfl] at hx221_0); (try rw [Addr.add_zero'] at hx221_0); replace p221 := eq_true p221; replace q221 := eq_true q221; have hcz51_0 : w49.cell? ⟨gb216, 0, none⟩ = some (.int .i64 t210) := (blk_cell BK216.out 0).trans rfl; have hcz51_1 : w49.cell? ⟨gb216, 1, none⟩ = some (.slice Ao48 t211.length co48) := (blk_cell BK216.out 1).trans rfl; have hfz51_0 := blk_frozen BK216.out 0; have hfz51_1 := blk_frozen BK216.out 1) | (go_at_call 25; (with_reducible refine (words_Get.calls t210 _ _ t211 1 true _ ?side1 ?side2 A14.out).mono ?_); (case side1 => repeat (first | exact (Kd.R_reads' HO213.out).2.2 | (with_reducible refine Kd.C_alloc ?_ _) | (with_reducible refine Kd.C_drewN ?_ _) | (with_reducible refine Kd.C_drew ?_))); (case side2 => exact (Kd.R_reads' HO213.out).2.1); rintro e w52 ⟨rfl, hb⟩; have n0_ := Aside0.mk (Kd.R_below (by (with_reducible repeat (first | apply Kd.R_alloc | apply Kd.R_drewN | apply Kd.R_drew)); exact HO203.out) hb); have n1_ := Aside0.mk (Kd.R_below (by (with_reducible repeat (first | apply Kd.R_alloc | apply Kd.R_drewN | apply Kd.R_drew)); exact HO207.out) hb); have n2_ := Aside0.mk (Kd.R_below (by (with_reducible repeat (first | apply Kd.R_alloc | apply Kd.R_drewN | apply Kd.R_drew)); exact HO213.out) hb); have n3_ := Aside0.mk (blk_below (g := gb209) (o := .cells #[.int .i64 t204, .slice (some ad221) t205.length co43] 24 (0, 0)) (by (with_reducible repeat (first | refine blk_drewN ?_ _ | refine blk_drew ?_ | refine blk_alloc ?_ _)); exact BK209.out) hb); have n4_ := Aside0.mk (blk_below (g := gb216) (o := .cells #[.int .i64 t210, .slice Ao48 t211.length co48] 24 (0, 0)) (by (with_reducible repeat (first | refine blk_drewN ?_ _ | refine blk_drew ?_ | refine blk_alloc ?_ _)); exact BK216.out) hb); have n5_ := Aside0.mk (below_step (by repeat (first | (with_reducible first | exact HB.out | apply below_alloc | apply pw_below_drewN | apply below_drew1 | refine below_set ?_ GE209.out | refine below_set ?_ GE216.out) | exact HB.out)) hb); clear HO203; clear HO207; clear HO213; clear BK209; clear BK216; clear HB; have HO203 := n0_; have HO207 := n1_; have HO213 := n2_; have BK209 := n3_; have BK216 := n4_; have HB := n5_; clear n0_ n1_ n2_ n3_ n4_ n5_; (try clear hb); (try clear hb2); (try clear hk); (try clear hi); have hcz53_0 : w52.cell? ⟨gb216, 0, none⟩ = some (.int .i64 t210) := (blk_cell BK216.out 0).trans rfl; have hcz53_1 : w52.cell? ⟨gb216, 1, none⟩ = some (.slice Ao48 t211.length co48) := (blk_cell BK216.out 1).trans rfl; have hfz53_0 := blk_frozen BK216.out 0; have hfz53_1 := blk_frozen BK216.out 1) | (go_at_call 25; (with_reducible refine (words_Get.calls t210 _ _ t211 2 false _ ?side1 ?side2 A16.out).mono ?_); (case side1 => repeat (first | exact (Kd.R_reads' HO213.out).2.2 | (with_reducible refine Kd.C_alloc ?_ _) | (with_reducible refine Kd.C_drewN ?_ _) | (with_reducible refine Kd.C_drew ?_))); (case side2 => exact (Kd.R_reads' HO213.out).2.1); rintro e w54 ⟨rfl, hb⟩; have n0_ := Aside0.mk (Kd.R_below (by (with_reducible repeat (first | apply Kd.R_alloc | apply Kd.R_drewN | apply Kd.R_drew)); exact HO203.out) hb); have n1_ := Aside0.mk (Kd.R_below (by (with_reducible repeat (first | apply Kd.R_alloc | apply Kd.R_drewN | apply Kd.R_drew)); exact HO207.out) hb); have n2_ := Aside0.mk (Kd.R_below (by (with_reducible repeat (first | apply Kd.R_alloc | apply Kd.R_drewN | apply Kd.R_drew)); exact HO213.out) hb); have n3_ := Aside0.mk (blk_below (g := gb209) (o := .cells #[.int .i64 t204, .slice (some ad221) t205.length co43] 24 (0, 0)) (by (with_reducible repeat (first | refine blk_drewN ?_ _ | refine blk_drew ?_ | refine blk_alloc ?_ _)); exact BK209.out) hb); have n4_ := Aside0.mk (blk_below (g := gb216) (o := .cells #[.int .i64 t210, .slice Ao48 t211.length co48] 24 (0, 0)) (by (with_reducible repeat (first | refine blk_drewN ?_ _ | refine blk_drew ?_ | refine blk_alloc ?_ _)); exact BK216.out) hb); have n5_ := Aside0.mk (below_step (by repeat (first | (with_reducible first | exact HB.out | apply below_alloc | apply pw_below_drewN | apply below_drew1 | refine below_set ?_ GE209.out | refine below_set ?_ GE216.out) | exact HB.out)) hb); clear HO203; clear HO207; clear HO213; clear BK209; clear BK216; clear HB; have HO203 := n0_; have HO207 := n1_; have HO213 := n2_; have BK209 := n3_; have BK216 := n4_; have HB := n5_; clear n0_ n1_ n2_ n3_ n4_ n5_; (try clear hb); (try clear hb2); (try clear hk); (try clear hi)))
                          go_ret
                          exact ⟨by first | rfl | (simp [errW_none, errW_some] <;> rfl) | (simp [*, errW_none, errW_some] <;> rfl), by repeat (first | (with_reducible first | exact HB.out | apply below_alloc | apply pw_below_drewN | apply below_drew1 | refine below_set ?_ GE209.out | refine below_set ?_ GE216.out) | exact HB.out)⟩
                        · rw [if_neg c36] at H
                          exact absurd (Option.some.inj H) (by rw [hrt_]; decide)
                    · replace c15 := Bool.eq_false_iff.mpr c15
                      subst c15
                      have H1 : (some false) = some r := by rw [if_neg (show ¬ (false = true) by decide)] at H; exact H
                      exact absurd (Option.some.inj H1) (by rw [hrt_]; decide)
                  · rw [if_neg c13] at H
                    exact absurd (Option.some.inj H) (by rw [hrt_]; decide)
                · replace c12 := Bool.eq_false_iff.mpr c12
                  subst c12
                  have H1 : (some false) = some r := by rw [if_neg (show ¬ (false = true) by decide)] at H; exact H
                  exact absurd (Option.some.inj H1) (by rw [hrt_]; decide)
              · rw [if_neg c11] at H
                exact absurd (Option.some.inj H) (by rw [hrt_]; decide)
            · rw [if_neg c10] at H
              exact absurd H (by simp)
          · rw [if_neg c9] at H
            exact absurd (Option.some.inj H) (by rw [hrt_]; decide)
        · rw [if_neg c8] at H
          exact absurd (Option.some.inj H) (by rw [hrt_]; decide)
      · rw [if_neg c7] at H
        exact absurd (Option.some.inj H) (by rw [hrt_]; decide)
    · rw [if_neg c6] at H
      exact absurd (Option.some.inj H) (by rw [hrt_]; decide)
  · rw [if_neg c5] at H
    exact absurd (Option.some.inj H) (by rw [hrt_]; decide)
end Go.Proofs.YtlghmadoogblcaaDoor.PW
end
section
namespace Go.Proofs.YtlghmadoogblcaaDoor.Alive
open Go.RowKit Go.Proofs.YtlghmadoogblcaaDoor.PW Go.Proofs.YtlghmadoogblcaaDoorW.PrintWords Go.Proofs.YtlghmadoogblcaaDoorW.PrintLast Go.Proofs.YtlghmadoogblcaaDoorW.PrintMore
set_option maxRecDepth 100000
theorem alive_true : vivariumlaw02_alive.f 100 = some true := by decide +kernel
end Go.Proofs.YtlghmadoogblcaaDoor.Alive
end
section
namespace Go.Proofs.YtlghmadoogblcaaDoor.OnesWalk
open Go Go.RowKit Go.Shelf Go.Proofs.YtlghmadoogblcaaDoorW.PrintWords Go.Proofs.YtlghmadoogblcaaDoorW.PrintLast Go.Proofs.YtlghmadoogblcaaDoorW.PrintMore Go.Proofs.YtlghmadoogblcaaDoor.PW Go.Proofs.YtlghmadoogblcaaDoor.PB Go.Proofs.YtlghmadoogblcaaDoor.Tz Go.Proofs.YtlghmadoogblcaaDoor.Bits1 Go.Proofs.YtlghmadoogblcaaDoor.Bx Go.Proofs.YtlghmadoogblcaaDoor.BitsAll Go.Proofs.YtlghmadoogblcaaDoor.Turned Go.Proofs.YtlghmadoogblcaaDoor.PopPlain Go.Proofs.YtlghmadoogblcaaDoor.OnesAgree Go.Proofs.YtlghmadoogblcaaDoor.Lent Go.Proofs.YtlghmadoogblcaaDoor.Book Go.Proofs.YtlghmadoogblcaaDoor.PS
attribute [local go_sem] Oper.semAt_some max2_int min2_int max_two min_two
set_option linter.unusedVariables false
set_option linter.unusedSimpArgs false
structure St (w W : World) (T : List (Nat × Array Value)) : Prop where
  be : Below w.heap.size w W
  bx : ∀ p ∈ T, Bx W p.1 p.2
  ge : ∀ p ∈ T, w.heap.size ≤ p.1
theorem chn {w w1 w2 : World} (h : Below w.heap.size w w1) (k : Below w1.heap.size w1 w2) : Below w.heap.size w w2 := below_then h h.size k
theorem St.start (w : World) : St w w [] := ⟨Below.refl _ _, fun p hp => by simp at hp, fun p hp => by simp at hp⟩
theorem St.on {w W W' : World} {T : List (Nat × Array Value)} (h : St w W T) (hb : Below W.heap.size W W') : St w W' T := ⟨chn h.be hb, fun p hp => (h.bx p hp).on hb, h.ge⟩
theorem St.push {w W : World} {T : List (Nat × Array Value)} (h : St w W T) (vs : Array Value) (t : TypeId) : St w (W.alloc (.cells vs t)) ((W.heap.size, vs) :: T) :=
  ⟨below_alloc h.be _, fun p hp => by
    rcases List.mem_cons.1 hp with rfl | hp
    · exact Bx.new W vs t
    · exact (h.bx p hp).alloc _, fun p hp => by
    rcases List.mem_cons.1 hp with rfl | hp
    · exact h.be.size
    · exact h.ge p hp⟩
theorem Bx.other {W W' : World} {g b : Nat} {vs : Array Value} (h : Bx W b vs) (hg : W.grownBy W' (some g)) (hne : b ≠ g) : Bx W' b vs := by
  have hl := h.lt
  obtain ⟨t, h⟩ := h
  exact ⟨t, (hg.block b hl (by simpa using hne)).trans h⟩
theorem own_other {W W' : World} {g base n : Nat} {e : TypeId} {v : Value} {xs : List Value} (h : W.ownsRow base e 1 v n xs) (hg : W.grownBy W' (some g)) (hne : g < base) : W'.ownsRow base e 1 v n xs :=
  own_move h (fun k hk => hg.block k (own_lt h k hk) (by have := own_base h k hk; simp; omega))
theorem al1 {w w1 : World} {o : Obj} (h : Below (w.alloc o).heap.size (w.alloc o) w1) : Below w.heap.size w w1 := chn (below_alloc (Below.refl _ w) o) h
def vals {Wf : Nat → Nat} {L : Nat} (pre : List (Pl Wf L)) : List Int := pre.map (·.1)
def but1 {Wf : Nat → Nat} {L : Nat} (pre : List (Pl Wf L)) : List Int := (vals pre).dropLast
theorem fn_ne (b : Addr) (w : World) : (binOp .eql 35 (.func (.func 34) #[] #[.pointer (some b)]) .nilFunc).run Tryd.prog w = .ok (.bool false) w := by kernel_rfl
theorem held_stops {W : World} {n0 Bs c : Nat} {A : Option Addr} {L : List Int} (hbx : Bx W Bs #[.slice A L.length c]) (hown : W.ownsRow n0 58 1 (.slice A L.length c) L.length (nums .u64 L)) (hT : Tab W) (hL : L.length ≤ 1025) (hU : ∀ i, i < L.length → 0 ≤ L.getD i 0 ∧ L.getD i 0 < 18446744073709551616) :
    ∃ gh, gh < W.heap.size ∧ (gh = 0 ∨ n0 ≤ gh) ∧ SeqStopsK Fence.wide 2 Tryd.prog 34 #[.pointer (some ⟨Bs, 0, none⟩)] (fun x : Pl (wf L) L.length => #[Value.int .i64 x.1]) (KpB [Bs, gh, 0]) (fun ys => vals ys = comes L) (fun pre => vals pre <+: comes L) 65600 W := by
  have hsz : 0 < W.heap.size := Nat.lt_of_le_of_lt (Nat.zero_le _) hbx.lt
  obtain ⟨gh, hgl, hgn, hgh⟩ : ∃ gh, gh < W.heap.size ∧ (gh = 0 ∨ n0 ≤ gh) ∧ (0 < L.length → A = some ⟨gh, 0, none⟩) := by
    by_cases h0 : 0 < L.length
    · obtain ⟨f, cp, e, hf⟩ := hown.form h0
      injection e with e1
      exact ⟨f, hf.2, .inr hf.1, fun _ => e1⟩
    · exact ⟨0, hsz, .inl rfl, fun h => absurd h h0⟩
  refine ⟨gh, hgl, hgn, stops 2 (by decide) Bs gh L.length c A (wf L) hL (fun i hi => ?_) W hbx.lt (hbx.c 0 _ rfl) (fun h => ⟨hgh h, hgl⟩) (fun j hj => ?_) hT⟩
  · have := hU i hi
    unfold wf
    omega
  · have e := hgh (by omega)
    subst e
    have h := hown.cells (g := gh) rfl j (.int .u64 (L.getD j 0)) (nums_at_ L j hj)
    rw [show (⟨gh, 0, none⟩ : Addr).add j = ⟨gh, j, none⟩ by cases j <;> simp [Addr.add]] at h
    rw [h]
    unfold wf
    rw [Int.toNat_of_nonneg (hU j hj).1]
theorem drewB {w w' : World} (h : Drawn0 w w') : Below w.heap.size w w' := by
  obtain ⟨nd, rfl⟩ := h
  exact pw_below_drewN (Below.refl _ _) nd
theorem own_C_int {w : World} {base c : Nat} {A : Option Addr} {xs : List Int} (h : w.ownsRow base 3 1 (.slice A xs.length c) xs.length (xs.map (Value.int .i64))) : Kd.C (Kd.int .i64) w A xs.length xs := by
  obtain ⟨A', c', e, _, h2⟩ := Kd.R_reads (Kd.R_of_own (enc := Value.int .i64) (h1 := fun _ => rfl) (ok := fun _ => True) h (fun _ _ => trivial))
  cases e
  exact h2
theorem info3 : (Tryd.prog.info? 3).map (fun i => (i.zero, i.size, i.bytes)) = some (some (.int .i64 0), 1, 8) := by kernel_rfl
theorem own_of_R_int {W : World} {base : Nat} {ok : Nat → Prop} {v : Value} {xs : List Int} (h : Kd.R (Kd.int .i64) 3 W base ok v xs) : W.ownsRow base 3 1 v xs.length (nums .i64 xs) := Kd.own_of_R (enc := Value.int .i64) (h1 := fun _ => rfl) h
set_option maxHeartbeats 64000000 in
set_option maxRecDepth 100000 in
theorem core (k : Nat) (n most : Int) (A : Option Addr) (c : Nat) (X Xz L Lz : List Int) (a e : Int) (w : World) (hr : Kd.C (Kd.int .u64) w A X.length X) (hl : X.length ≤ c) (hm : X.length ≤ 17592186043904) (hT : Tab w) (hk : 17592186043906 < k)
    (hal : vivariumlaw02_alive.f k = some true) (hxz : X.map (fun v => Go.bits .xor .u64 v 6148914691236517205) = Xz) (o1 : words_Ones.f k n X = some (a, e)) (o2 : vivariumref02_Ones.f k n X = some (a, e)) (bt : BitsTold n X L) (pl : vivariumref02_Places.f k n X = some (comes L)) (hL : L.length ≤ 1025) (hU : ∀ i, i < L.length → 0 ≤ L.getD i 0 ∧ L.getD i 0 < 18446744073709551616)
    (bz : BitsTold n Xz Lz) (pz : vivariumref02_Places.f k n Xz = some (comes Lz)) (hLz : Lz.length ≤ 1025) (hUz : ∀ i, i < Lz.length → 0 ≤ Lz.getD i 0 ∧ Lz.getD i 0 < 18446744073709551616) (hS : vivariumref02_Same.f k n X n X = some true) (hsm : ∀ l : List Int, l.length ≤ 65600 → vivariumlaw02_same.f k l l = some true) :
    Calls Tryd.prog 3 #[.agg #[.int .i64 n, .slice A X.length c], .int .i64 most] w fun e w' => e = .returned (.bool true) ∧ Below w.heap.size w w' := by
  have HR := Aside0.mk hr; have HL := Aside0.mk hl; have HM := Aside0.mk hm; have HT := Aside0.mk hT; have HK := Aside0.mk hk; have HA := Aside0.mk hal; have HXZ := Aside0.mk hxz; have O1 := Aside0.mk o1; have O2 := Aside0.mk o2; have BT := Aside0.mk bt; have PL := Aside0.mk pl; have HLL := Aside0.mk hL; have HU := Aside0.mk hU; have BZ := Aside0.mk bz; have PZ := Aside0.mk pz; have HLZ := Aside0.mk hLz; have HUZ := Aside0.mk hUz; have HS := Aside0.mk hS; have HSM := Aside0.mk hsm
  have HXL := Aside0.mk (show Xz.length = X.length by rw [← hxz, List.length_map])
  clear hr hl hm hT hk hal hxz o1 o2 bt pl hL hU bz pz hLz hUz hS hsm
  have hu := Tryd.underlying24
  have hz := Tryd.zeroValue24
  have hzi := Tryd.zeroValue32
  have hfn := fn_ne
  refine (callsIn_wide (n := 3)).1 ?_
  refine callsIn_of_wp_marks Tryd.func3 rfl trivial ?_ rfl
  simp only [Tryd.ntmps3, List.size_toArray, List.length_cons, List.length_nil, Nat.reduceAdd, Nat.reduceSub, Array.replicate_succ, Array.replicate_zero, List.push_toArray, List.append_toArray, List.nil_append, List.cons_append]
  gi_wp2_with (first
    | (refine ⟨trivial, ?_⟩; gi_at_call 7; refine (callsIn_wide.2 (vivariumlaw02_alive.calls k true _ rfl HA.out)).mono ?_; rintro e_ w1 ⟨rfl, hb⟩; have S1_ := (((St.start w).push #[.int .i64 n, .slice A X.length c] 24).push #[.int .i64 most] 3).on hb; simp only [World.size_alloc] at S1_; have S1 := Aside0.mk S1_; clear hb S1_; have q1_ := S1.out.bx (w.heap.size, #[.int .i64 n, .slice A X.length c]) (by simp); have z1_0 := q1_.c 0 _ rfl; have z1_1 := q1_.c 1 _ rfl; have l1_ := q1_.lt; have n1_ := Nat.ne_of_lt l1_; clear q1_)
    | (refine ⟨trivial, ?_⟩; gi_at_call 8; refine (callsIn_wide.2 (Lent.lent n A c X _ (Kd.C_below HR.out S1.out.be) HL.out HM.out)).mono ?_; rintro e_ w2 ⟨g0, d0, rfl, hl, hb⟩; clear z1_0 z1_1 l1_ n1_; have S2 := Aside0.mk (S1.out.on hb); have L2 := Aside0.mk hl; have LG1 := Aside0.mk (own_base hl g0 rfl); have LG := Aside0.mk (own_lt hl g0 rfl); have LS1 := Aside0.mk S1.out.be.size; have lx1 := (S1.out.bx (w.heap.size + 1, #[.int .i64 most]) (by simp)).lt; have LX1 := Aside0.mk lx1; clear hb hl S1 lx1; have q1_ := S2.out.bx (w.heap.size, #[.int .i64 n, .slice A X.length c]) (by simp); have z1_0 := q1_.c 0 _ rfl; have z1_1 := q1_.c 1 _ rfl; have l1_ := q1_.lt; have n1_ := Nat.ne_of_lt l1_; clear q1_)
    | (refine ⟨trivial, ?_⟩; gi_at_call 9; refine (callsIn_wide.2 (vivariumref02_Ones.calls k n A c X a e _ (Kd.C_alloc (Kd.C_below HR.out S2.out.be) _) HL.out O2.out)).mono ?_; rintro e_ w3 ⟨rfl, hb⟩; clear z1_0 z1_1 l1_ n1_; have S3 := Aside0.mk ((S2.out.push #[.int .i64 n, .slice (some ⟨g0, 0, none⟩) X.length d0] 24).on hb); have L3 := Aside0.mk (L2.out.on (al1 hb)); clear hb S2; have q2_ := S3.out.bx (w2.heap.size, #[.int .i64 n, .slice (some ⟨g0, 0, none⟩) X.length d0]) (by simp); have z2_0 := q2_.c 0 _ rfl; have z2_1 := q2_.c 1 _ rfl; have l2_ := q2_.lt; have n2_ := Nat.ne_of_lt l2_; clear q2_)
    | (refine ⟨trivial, ?_⟩; gi_at_call 10; refine (callsIn_wide.2 (words_Ones.calls k n (some ⟨g0, 0, none⟩) d0 X a e _ L3.out.C (by have := L3.out.cap; omega) O1.out)).mono ?_; rintro e_ w4 ⟨rfl, hb⟩; clear z2_0 z2_1 l2_ n2_; have S4 := Aside0.mk (S3.out.on hb); have L4 := Aside0.mk (L3.out.on hb); clear hb S3 L3; have q1_ := S4.out.bx (w.heap.size, #[.int .i64 n, .slice A X.length c]) (by simp); have z1_0 := q1_.c 0 _ rfl; have z1_1 := q1_.c 1 _ rfl; have l1_ := q1_.lt; have n1_ := Nat.ne_of_lt l1_; clear q1_)
    | (refine ⟨trivial, ?_⟩; gi_at_call 11; refine (callsIn_wide.2 (vivariumref02_Places.calls k n A c X (comes L) _ (Kd.C_below HR.out S4.out.be) HL.out PL.out)).mono ?_; rintro e_ w5 ⟨vp, rfl, hv, hb⟩; clear z1_0 z1_1 l1_ n1_; have hvo := own_of_R_int hv; obtain ⟨Ap, cp, rfl⟩ := own_slice hvo; have VP := Aside0.mk hvo; have S5 := Aside0.mk (S4.out.on hb); have L5 := Aside0.mk (L4.out.on hb); have G4 := Aside0.mk (Nat.lt_of_lt_of_le LG.out (Nat.le_trans (Nat.le_of_lt (show w2.heap.size < w4.heap.size from (S4.out.bx (w2.heap.size, #[.int .i64 n, .slice (some ⟨g0, 0, none⟩) X.length d0]) (by simp)).lt)) (Nat.le_refl _))); clear hb hv hvo S4 L4; have q2_ := S5.out.bx (w2.heap.size, #[.int .i64 n, .slice (some ⟨g0, 0, none⟩) X.length d0]) (by simp); have z2_0 := q2_.c 0 _ rfl; have z2_1 := q2_.c 1 _ rfl; have l2_ := q2_.lt; have n2_ := Nat.ne_of_lt l2_; clear q2_)
    | (refine ⟨trivial, ?_⟩; gi_at_call 12; refine (callsIn_wide.2 (BT.out (some ⟨g0, 0, none⟩) d0 _ L5.out.C (by have := L5.out.cap; omega))).mono ?_; rintro e_ w6 ⟨⟨Bs, Ah, ch, rfl, hge, hbs, hown⟩, hb⟩; clear z2_0 z2_1 l2_ n2_; have S6 := Aside0.mk (S5.out.on hb); have L6 := Aside0.mk (L5.out.on hb); have VP6 := Aside0.mk (pw_own_below VP.out hb); have HB6 := Aside0.mk hbs; have HO6 := Aside0.mk hown; have HG6 := Aside0.mk hge; have G5 := Aside0.mk (Nat.lt_of_lt_of_le LG.out (Nat.le_of_lt (show w2.heap.size < w5.heap.size from (S5.out.bx (w2.heap.size, #[.int .i64 n, .slice (some ⟨g0, 0, none⟩) X.length d0]) (by simp)).lt))); clear hb hbs hown hge S5 L5 VP; have q2_ := S6.out.bx (w2.heap.size, #[.int .i64 n, .slice (some ⟨g0, 0, none⟩) X.length d0]) (by simp); have z2_0 := q2_.c 0 _ rfl; have z2_1 := q2_.c 1 _ rfl; have l2_ := q2_.lt; have n2_ := Nat.ne_of_lt l2_; clear q2_; have q1_ := S6.out.bx (w.heap.size, #[.int .i64 n, .slice A X.length c]) (by simp); have z1_0 := q1_.c 0 _ rfl; have z1_1 := q1_.c 1 _ rfl; have l1_ := q1_.lt; have n1_ := Nat.ne_of_lt l1_; clear q1_)
    | (refine ⟨trivial, ?_⟩; gi_at_call 13; refine (callsIn_wide.2 (Lent.kept k n g0 d0 A c X w1.heap.size _ L6.out (Kd.C_below HR.out S6.out.be) HL.out HM.out HS.out)).mono ?_; rintro e_ w7 ⟨rfl, hb⟩; clear z2_0 z2_1 l2_ n2_; clear z1_0 z1_1 l1_ n1_; have S7 := Aside0.mk (S6.out.on hb); have L7 := Aside0.mk (L6.out.on hb); have VP7 := Aside0.mk (pw_own_below VP6.out hb); have HB7 := Aside0.mk (HB6.out.on hb); have HO7 := Aside0.mk (pw_own_below HO6.out hb); clear hb S6 L6 VP6 HB6 HO6; have q2_ := S7.out.bx (w2.heap.size, #[.int .i64 n, .slice (some ⟨g0, 0, none⟩) X.length d0]) (by simp); have z2_0 := q2_.c 0 _ rfl; have z2_1 := q2_.c 1 _ rfl; have l2_ := q2_.lt; have n2_ := Nat.ne_of_lt l2_; clear q2_)
    | (refine ⟨trivial, ?_⟩; gi_at_call 14; refine (callsIn_wide.2 (Lent.wipe n g0 d0 X w1.heap.size _ L7.out (by have := LG1.out; have := own_lt L7.out g0 rfl; omega) HM.out)).mono ?_; rintro e_ w8 ⟨rfl, hlw, hg⟩; clear z2_0 z2_1 l2_ n2_; rw [HXZ.out] at hlw; have FL := Aside0.mk hlw; have FBE := Aside0.mk (S7.out.be.grown hg S7.out.be.size (fun q hq => by cases hq; have := LG1.out; have := LS1.out; omega)); have FR := Aside0.mk (Bx.other (S7.out.bx (w.heap.size, #[.int .i64 n, .slice A X.length c]) (by simp)) hg (by have := LG1.out; have := LX1.out; show w.heap.size ≠ g0; omega)); have FM := Aside0.mk (Bx.other (S7.out.bx (w.heap.size + 1, #[.int .i64 most]) (by simp)) hg (by have := LG1.out; have := LX1.out; show w.heap.size + 1 ≠ g0; omega)); have FX := Aside0.mk (Bx.other (S7.out.bx (w2.heap.size, #[.int .i64 n, .slice (some ⟨g0, 0, none⟩) X.length d0]) (by simp)) hg (by have := LG.out; show w2.heap.size ≠ g0; omega)); have FB := Aside0.mk (Bx.other HB7.out hg (by have := G5.out; have := HG6.out; omega)); have FO := Aside0.mk (own_other HO7.out hg G5.out); have FP := Aside0.mk (own_other VP7.out hg G4.out); clear hlw hg S7 L7 VP7 HB7 HO7))
  rename_i K1_ hK1_
  have hb8 := FBE.out
  obtain ⟨gh, hgl, -, hst⟩ := held_stops FB.out FO.out (HT.out.on hb8) HLL.out HU.out
  obtain ⟨i0, hi, hz0, hz1, hz2⟩ := info_parts info3
  obtain ⟨m, hm_⟩ : ∃ m : Nat, most.toNat = m := ⟨_, rfl⟩
  have hcl : (comes L).length ≤ 65600 := by have := plc_len (wf L) L.length; have := HLL.out; show (plc (wf L) L.length).length ≤ _; omega
  have HK1 : Aside0 (∀ (D : Nat) (W : World) (v : Value), Boxed W w8.heap.size 32 v → W.ownsRow w8.heap.size 3 1 v ((comes L).take m).length (((comes L).take m).map (Value.int .i64)) → Below w8.heap.size w8 W → w8.heap.size + 1 ≤ D → W.heap[D]? = some (.deferred (some [])) → K1_ { tmps := #[.agg #[.int .i64 n, .slice A X.length c], .int .i64 most, .pointer (some ⟨w.heap.size, 0, none⟩), .pointer (some ⟨w.heap.size + 1, 0, none⟩), .bool false, .bool true, .pointer (some ⟨w2.heap.size, 0, none⟩), .int .i64 a, .int .i64 e, .int .i64 a, .int .i64 e, .slice Ap (comes L).length cp, .func (.func 34) #[] #[.pointer (some ⟨Bs, 0, none⟩)], .bool true, .pointer (some ⟨w8.heap.size, 0, none⟩), undef, undef, undef, undef, undef, undef, undef, undef, undef, .bool true, .agg #[.int .i64 n, .slice A X.length c], .agg #[.int .i64 n, .slice (some ⟨g0, 0, none⟩) X.length d0], .tuple #[.int .i64 a, .int .i64 e], .agg #[.int .i64 n, .slice A X.length c], .tuple #[.int .i64 a, .int .i64 e], .int .i64 a, .int .i64 e, .tuple #[.int .i64 a, .int .i64 e], .agg #[.int .i64 n, .slice (some ⟨g0, 0, none⟩) X.length d0], .tuple #[.int .i64 a, .int .i64 e], .int .i64 a, .int .i64 e, .int .i64 a, .int .i64 a, .bool false, .bool false, .int .i64 e, .int .i64 e, .bool false, .bool false, .agg #[.int .i64 n, .slice A X.length c], .slice Ap (comes L).length cp, .agg #[.int .i64 n, .slice (some ⟨g0, 0, none⟩) X.length d0], .func (.func 34) #[] #[.pointer (some ⟨Bs, 0, none⟩)], .func (.func 34) #[] #[.pointer (some ⟨Bs, 0, none⟩)], .bool false, .agg #[.int .i64 n, .slice (some ⟨g0, 0, none⟩) X.length d0], .agg #[.int .i64 n, .slice A X.length c], .bool true, .agg #[.int .i64 n, .slice (some ⟨g0, 0, none⟩) X.length d0], .tuple #[], .func (.func 34) #[] #[.pointer (some ⟨Bs, 0, none⟩)], undef, undef, undef, undef, undef, undef, undef, undef, undef, undef, undef, undef, undef, undef, undef, undef, undef, undef, undef, undef, undef, undef, undef, undef, undef, undef, undef, undef, undef, undef, undef, undef, undef, undef, undef, undef, undef, undef, undef, undef, undef, undef, undef, undef, undef, undef, undef, undef, undef, undef, undef, undef, undef, undef], defers := [{ target := .collected D, args := #[] }] } W) := by
    refine ⟨?_⟩
    intro D1 W1 v1 bv1 ov1 hB1 hD1 hKD1
    obtain ⟨F, hF⟩ : ∃ F, (comes L).take m = F := ⟨_, rfl⟩
    rw [hF] at ov1
    have HF := Aside0.mk hF
    clear hF
    refine hK1_ _ _ ?_
    gi_wp2
    rename_i K2_ hK2_
    have hb1 := chn hb8 hB1
    have FB1 := Aside0.mk (FB.out.on hB1)
    obtain ⟨gh1, hgl1, -, hst1⟩ := held_stops FB1.out (pw_own_below FO.out hB1) (HT.out.on hb1) HLL.out HU.out
    have HK2 := Aside0.mk hK2_
    clear hK2_
    refine wpIn_rangeFunc_ownF (α := Pl (wf L) L.length) rfl (by decide) (gf := 34) (lb := #[.pointer (some ⟨Bs, 0, none⟩)]) rfl trivial (enters_of Tryd.func34 (by kernel_rfl) rfl)
      hst1 (fun h k => KpB.trans h k) ?kb (below_alloc (Below.refl _ _) _) (fun _ => rfl)
      (fun pre W => (∃ v, Boxed W W1.heap.size 32 v ∧ W.ownsRow W1.heap.size 3 1 v (vals pre).length ((vals pre).map (Value.int .i64)) ∧ True) ∧ Below W1.heap.size W1 W)
      (fun _ _ _ => False)
      (OwnFrom.and (Own.from (holdsRow_own W1.heap.size W1.heap.size 32 3 1 (fun pre => (vals pre).length) (fun pre => (vals pre).map (Value.int .i64)) (fun pre _ => True)) _) (ownFrom_below (Nat.le_refl _) (by simp)))
      (fun _ _ _ _ _ hs _ _ => hs)
      ⟨⟨_, Boxed.new W1 32 (.slice none 0 0), World.ownsRow_nil _ _ _ _, trivial⟩, below_alloc (Below.refl _ _) _⟩
      (fun x => { tmps := #[.agg #[.int .i64 n, .slice A X.length c], .int .i64 most, .pointer (some ⟨w.heap.size, 0, none⟩), .pointer (some ⟨w.heap.size + 1, 0, none⟩), .bool false, .bool true, .pointer (some ⟨w2.heap.size, 0, none⟩), .int .i64 a, .int .i64 e, .int .i64 a, .int .i64 e, .slice Ap (comes L).length cp, .func (.func 34) #[] #[.pointer (some ⟨Bs, 0, none⟩)], .bool true, .pointer (some ⟨w8.heap.size, 0, none⟩), undef, .pointer (some ⟨W1.heap.size, 0, none⟩), .int .i64 x.1, undef, undef, undef, undef, undef, undef, .bool true, .agg #[.int .i64 n, .slice A X.length c], .agg #[.int .i64 n, .slice (some ⟨g0, 0, none⟩) X.length d0], .tuple #[.int .i64 a, .int .i64 e], .agg #[.int .i64 n, .slice A X.length c], .tuple #[.int .i64 a, .int .i64 e], .int .i64 a, .int .i64 e, .tuple #[.int .i64 a, .int .i64 e], .agg #[.int .i64 n, .slice (some ⟨g0, 0, none⟩) X.length d0], .tuple #[.int .i64 a, .int .i64 e], .int .i64 a, .int .i64 e, .int .i64 a, .int .i64 a, .bool false, .bool false, .int .i64 e, .int .i64 e, .bool false, .bool false, .agg #[.int .i64 n, .slice A X.length c], .slice Ap (comes L).length cp, .agg #[.int .i64 n, .slice (some ⟨g0, 0, none⟩) X.length d0], .func (.func 34) #[] #[.pointer (some ⟨Bs, 0, none⟩)], .func (.func 34) #[] #[.pointer (some ⟨Bs, 0, none⟩)], .bool false, .agg #[.int .i64 n, .slice (some ⟨g0, 0, none⟩) X.length d0], .agg #[.int .i64 n, .slice A X.length c], .bool true, .agg #[.int .i64 n, .slice (some ⟨g0, 0, none⟩) X.length d0], .tuple #[], .func (.func 34) #[] #[.pointer (some ⟨Bs, 0, none⟩)], undef, undef, undef, undef, undef, undef, undef, undef, undef, .func (.func 34) #[] #[.pointer (some ⟨Bs, 0, none⟩)], .int .i64 x.1, undef, undef, undef, undef, undef, undef, undef, undef, undef, undef, undef, undef, undef, undef, undef, undef, undef, undef, undef, undef, undef, undef, undef, undef, undef, undef, undef, undef, undef, undef, undef, undef, undef, undef, undef, undef, undef, undef, undef, undef, undef, undef, undef], defers := [] }) ?assign ?body ?done ?stop
    case kb =>
      intro W l o o' hl h1 h2 h3 q hq
      refine World.putObj_heap_other ?_
      have := FB1.out.lt
      simp at hq hl
      omega
    case assign =>
      intro l x W K hK
      gi_wp2
      exact hK
    case stop =>
      rintro D cd pre W _ _ h _
      exact h.elim
    case body =>
      rintro l pre x W ⟨⟨v, hv, hrow, -⟩, hB⟩ hlt
      have hc := hv.cell
      have hf := hv.frozen
      obtain ⟨Av, cv, rfl⟩ := own_slice hrow
      have HVL := Aside0.mk (show vals (pre ++ [x]) = vals pre ++ [x.1] from List.map_append)
      have hvb : (vals pre).length < 65600 := by rw [show (vals pre).length = pre.length from List.length_map _]; exact hlt
      have hmx : (65601 : Nat) ≤ maxLen := by decide
      gi_wp2_with (gi_at_builtin; refine wpListIn_append_own _ rfl _ _ 32 rfl W1.heap.size 3 i0 (.int .i64 0) 1 8 Tryd.underlying32 hi hz0 hz1 hz2 rfl (by decide) _ _ _ rfl (hrow.alloc _) ⟨W.heap.size, 0, none⟩ 1 1 [.int .i64 x.1] rfl rfl (cell_one_new _ _ _) (by simp [Value.oneCell']) (by omega) (by omega) (by have := hB.size; simp; omega) ?_; intro v' w1' hown' hgrow _; obtain ⟨g', cap', rfl⟩ := ownsRow_succ hown'; obtain ⟨hv1, hv2, hr2, hk2, hb2⟩ := hv.appended (by decide) hrow hB.size (Nat.le_refl _) hown' hgrow; have hc1 := hv1.cell; have hf1 := hv1.frozen)
      refine ⟨hk2, ?_, ⟨_, hv2, ?_, trivial⟩, hB.trans hb2⟩
      · intro q hq
        have h3 : q < W1.heap.size := by
          have := FB1.out.lt
          simp at hq
          omega
        exact hb2.block q h3
      · rw [HVL.out]; simpa using hr2
    case done =>
      rintro D2 ys W2 hD2 hys ⟨⟨v2, bv2, ov2, -⟩, hB2⟩ hKD2
      show K2_ _ _
      rw [hys] at ov2
      refine HK2.out _ _ ?_
      clear HK2
      refine wpIn_seq_k (fun Ka hKa => ?_)
      have HKa := Aside0.mk hKa
      clear hKa
      gi_wp2
      refine HKa.out _ _ ?_
      clear HKa
      refine wpIn_seq_k (fun Kb hKb => ?_)
      have HKb := Aside0.mk hKb
      clear hKb
      have hmb2 := (FM.out.on hB1).on hB2
      have m0_ := hmb2.c 0 _ rfl
      obtain ⟨lp, hlp⟩ : ∃ lp, (comes L).length = lp := ⟨_, rfl⟩
      have HK3 : Aside0 (∀ fl : Nat, fl = F.length → ∀ u73 u74 u75 u76 u77 u78 u79 u80 : Value, Kb { tmps := #[.agg #[.int .i64 n, .slice A X.length c], .int .i64 most, .pointer (some ⟨w.heap.size, 0, none⟩), .pointer (some ⟨w.heap.size + 1, 0, none⟩), .bool false, .bool true, .pointer (some ⟨w2.heap.size, 0, none⟩), .int .i64 a, .int .i64 e, .int .i64 a, .int .i64 e, .slice Ap lp cp, .func (.func 34) #[] #[.pointer (some ⟨Bs, 0, none⟩)], .bool true, .pointer (some ⟨w8.heap.size, 0, none⟩), undef, .pointer (some ⟨W1.heap.size, 0, none⟩), undef, .slice Ap fl cp, undef, undef, undef, undef, undef, .bool true, .agg #[.int .i64 n, .slice A X.length c], .agg #[.int .i64 n, .slice (some ⟨g0, 0, none⟩) X.length d0], .tuple #[.int .i64 a, .int .i64 e], .agg #[.int .i64 n, .slice A X.length c], .tuple #[.int .i64 a, .int .i64 e], .int .i64 a, .int .i64 e, .tuple #[.int .i64 a, .int .i64 e], .agg #[.int .i64 n, .slice (some ⟨g0, 0, none⟩) X.length d0], .tuple #[.int .i64 a, .int .i64 e], .int .i64 a, .int .i64 e, .int .i64 a, .int .i64 a, .bool false, .bool false, .int .i64 e, .int .i64 e, .bool false, .bool false, .agg #[.int .i64 n, .slice A X.length c], .slice Ap lp cp, .agg #[.int .i64 n, .slice (some ⟨g0, 0, none⟩) X.length d0], .func (.func 34) #[] #[.pointer (some ⟨Bs, 0, none⟩)], .func (.func 34) #[] #[.pointer (some ⟨Bs, 0, none⟩)], .bool false, .agg #[.int .i64 n, .slice (some ⟨g0, 0, none⟩) X.length d0], .agg #[.int .i64 n, .slice A X.length c], .bool true, .agg #[.int .i64 n, .slice (some ⟨g0, 0, none⟩) X.length d0], .tuple #[], .func (.func 34) #[] #[.pointer (some ⟨Bs, 0, none⟩)], undef, undef, undef, undef, undef, undef, undef, undef, undef, .func (.func 34) #[] #[.pointer (some ⟨Bs, 0, none⟩)], undef, undef, undef, undef, undef, .slice Ap lp cp, u73, u74, u75, u76, u77, u78, u79, u80, undef, undef, undef, undef, undef, undef, undef, undef, undef, undef, undef, undef, undef, undef, undef, undef, undef, undef, undef, undef, undef, undef, undef, undef, undef, undef, undef, undef, undef, undef], defers := [{ target := .collected D2, args := #[] }, { target := .collected D1, args := #[] }] } W2) := by
        refine ⟨?_⟩
        intro fl hfl u73 u74 u75 u76 u77 u78 u79 u80
        subst hlp
        subst hfl
        refine HKb.out _ _ ?_
        clear HKb
        have hxb2 := (FX.out.on hB1).on hB2
        have x0_ := hxb2.c 0 _ rfl; have x1_ := hxb2.c 1 _ rfl
        have lx_ := hxb2.lt
        have nx_ := Nat.ne_of_lt lx_
        have FL2 := (FL.out.on hB1).on hB2
        gi_wp2_with (refine ⟨trivial, ?_⟩; gi_at_call 12; have h_ := BZ.out (some ⟨g0, 0, none⟩) d0 _ (FL2.on (below_alloc (Below.refl W2.heap.size W2) (.cells #[.slice none 0 0] 32))).C (by have := FL2.cap; omega); rw [HXL.out] at h_; refine (callsIn_wide.2 h_).mono ?_; clear h_; rintro e_ w11 ⟨⟨Bs2, Ah2, ch2, rfl, hge2, hbs2, hown2⟩, hb11⟩; clear x0_ x1_ lx_ nx_)
        rename_i K3_ hK3_
        have HKc := Aside0.mk hK3_
        clear hK3_
        have hb2 := chn hb1 hB2
        have hb11' := al1 hb11
        have hw11 := hb11'.size
        have hb3 := chn hb2 hb11'
        obtain ⟨gh2, hgl2, hgn2, hst2⟩ := held_stops hbs2 hown2 (HT.out.on hb3) HLZ.out HUZ.out
        have bv3 : Boxed w11 W2.heap.size 32 (.slice none 0 0) := (hb11.block W2.heap.size (by simp)).trans (Boxed.new W2 32 (.slice none 0 0))
        have hlt3 : W2.heap.size < w11.heap.size := bv3.lt
        have hge2' : W2.heap.size + 1 ≤ Bs2 := by simpa using hge2
        have hgn : gh2 ≠ W2.heap.size := by
          have hz2_ : 0 < W2.heap.size := Nat.lt_of_le_of_lt (Nat.zero_le _) bv2.lt
          rcases hgn2 with h | h
          · omega
          · simp at h; omega
        refine wpIn_rangeFunc_ownF (α := Pl (wf Lz) Lz.length) rfl (by decide) (gf := 34) (lb := #[.pointer (some ⟨Bs2, 0, none⟩)]) rfl trivial (enters_of Tryd.func34 (by kernel_rfl) rfl)
          hst2 (fun h k => KpB.trans h k) ?kb (Below.refl _ _) (fun _ => rfl)
          (fun pre W => (∃ v, Boxed W W2.heap.size 32 v ∧ W.ownsRow w11.heap.size 3 1 v (vals pre).length ((vals pre).map (Value.int .i64)) ∧ True) ∧ Below W2.heap.size w11 W)
          (fun _ _ _ => False)
          (OwnFrom.and (Own.from (holdsRow_own w11.heap.size W2.heap.size 32 3 1 (fun pre => (vals pre).length) (fun pre => (vals pre).map (Value.int .i64)) (fun pre _ => True)) _) (ownFrom_below hw11 hw11))
          (fun _ _ _ _ _ hs _ _ => hs)
          ⟨⟨_, bv3, World.ownsRow_nil _ _ _ _, trivial⟩, Below.refl _ _⟩
          (fun x => { tmps := #[.agg #[.int .i64 n, .slice A X.length c], .int .i64 most, .pointer (some ⟨w.heap.size, 0, none⟩), .pointer (some ⟨w.heap.size + 1, 0, none⟩), .bool false, .bool true, .pointer (some ⟨w2.heap.size, 0, none⟩), .int .i64 a, .int .i64 e, .int .i64 a, .int .i64 e, .slice Ap (comes L).length cp, .func (.func 34) #[] #[.pointer (some ⟨Bs, 0, none⟩)], .bool true, .pointer (some ⟨w8.heap.size, 0, none⟩), undef, .pointer (some ⟨W1.heap.size, 0, none⟩), undef, .slice Ap F.length cp, .pointer (some ⟨W2.heap.size, 0, none⟩), .int .i64 x.1, undef, undef, undef, .bool true, .agg #[.int .i64 n, .slice A X.length c], .agg #[.int .i64 n, .slice (some ⟨g0, 0, none⟩) X.length d0], .tuple #[.int .i64 a, .int .i64 e], .agg #[.int .i64 n, .slice A X.length c], .tuple #[.int .i64 a, .int .i64 e], .int .i64 a, .int .i64 e, .tuple #[.int .i64 a, .int .i64 e], .agg #[.int .i64 n, .slice (some ⟨g0, 0, none⟩) X.length d0], .tuple #[.int .i64 a, .int .i64 e], .int .i64 a, .int .i64 e, .int .i64 a, .int .i64 a, .bool false, .bool false, .int .i64 e, .int .i64 e, .bool false, .bool false, .agg #[.int .i64 n, .slice A X.length c], .slice Ap (comes L).length cp, .agg #[.int .i64 n, .slice (some ⟨g0, 0, none⟩) X.length d0], .func (.func 34) #[] #[.pointer (some ⟨Bs, 0, none⟩)], .func (.func 34) #[] #[.pointer (some ⟨Bs, 0, none⟩)], .bool false, .agg #[.int .i64 n, .slice (some ⟨g0, 0, none⟩) X.length d0], .agg #[.int .i64 n, .slice A X.length c], .bool true, .agg #[.int .i64 n, .slice (some ⟨g0, 0, none⟩) X.length d0], .tuple #[], .func (.func 34) #[] #[.pointer (some ⟨Bs, 0, none⟩)], undef, undef, undef, undef, undef, undef, undef, undef, undef, .func (.func 34) #[] #[.pointer (some ⟨Bs, 0, none⟩)], undef, undef, undef, undef, undef, .slice Ap (comes L).length cp, u73, u74, u75, u76, u77, u78, u79, u80, .agg #[.int .i64 n, .slice (some ⟨g0, 0, none⟩) X.length d0], .func (.func 34) #[] #[.pointer (some ⟨Bs2, 0, none⟩)], .int .i64 x.1, undef, undef, undef, undef, undef, undef, undef, undef, undef, undef, undef, undef, undef, undef, undef, undef, undef, undef, undef, undef, undef, undef, undef, undef, undef, undef, undef], defers := [] }) ?assign ?body ?done ?stop
        case kb =>
          intro W l o o' hl h1 h2 h3 q hq
          refine World.putObj_heap_other ?_
          have := hbs2.lt
          simp at hq hl
          omega
        case assign =>
          intro l x W K hK
          gi_wp2
          exact hK
        case stop =>
          rintro D cd pre W _ _ h _
          exact h.elim
        case body =>
          rintro l pre x W ⟨⟨v, hv, hrow, -⟩, hB⟩ hlt
          have hc := hv.cell
          have hf := hv.frozen
          obtain ⟨Av, cv, rfl⟩ := own_slice hrow
          have HVL := Aside0.mk (show vals (pre ++ [x]) = vals pre ++ [x.1] from List.map_append)
          have hvb : (vals pre).length < 65600 := by rw [show (vals pre).length = pre.length from List.length_map _]; exact hlt
          have hmx : (65601 : Nat) ≤ maxLen := by decide
          gi_wp2_with (gi_at_builtin; refine wpListIn_append_own _ rfl _ _ 32 rfl w11.heap.size 3 i0 (.int .i64 0) 1 8 Tryd.underlying32 hi hz0 hz1 hz2 rfl (by decide) _ _ _ rfl (hrow.alloc _) ⟨W.heap.size, 0, none⟩ 1 1 [.int .i64 x.1] rfl rfl (cell_one_new _ _ _) (by simp [Value.oneCell']) (by omega) (by omega) (by have := hB.size; simp; omega) ?_; intro v' w1' hown' hgrow _; obtain ⟨g', cap', rfl⟩ := ownsRow_succ hown'; obtain ⟨hv1, hv2, hr2, hk2, hb2_⟩ := hv.appended (by decide) (own_weaken hrow hw11) (Nat.le_trans hw11 hB.size) (Nat.le_refl _) (own_weaken hown' hw11) hgrow; have hc1 := hv1.cell; have hf1 := hv1.frozen)
          have hne := hv1.not_row (by decide) hown'
          have hz2_ : 0 < W2.heap.size := Nat.lt_of_le_of_lt (Nat.zero_le _) bv2.lt
          refine ⟨hk2, ?_, ⟨_, hv2, ?_, trivial⟩, hB.trans hb2_⟩
          · intro q hq
            have h3 : q < w11.heap.size ∧ q ≠ W2.heap.size := by
              have := hbs2.lt
              simp at hq
              omega
            have h4 := hB.size
            refine (Below.heap_setCell _ ⟨W2.heap.size, 0, none⟩ _ _ h3.2).trans ((hgrow.block q (by simp; omega) (fun e => ?_)).trans (Below.heap_alloc W _ q (by omega)))
            have := own_base hrow q e.symm
            omega
          · rw [HVL.out]
            have h5 := own_setCell hown' (p := ⟨W2.heap.size, 0, none⟩) hne (.slice (some ⟨g', 0, none⟩) ((vals pre).length + 1) cap')
            simpa using h5
        case done =>
          rintro D3 zs W3 hD3 hzs ⟨⟨v3, bv3', ov3, -⟩, hB3⟩ hKD3
          rw [hzs] at ov3
          have h23 : Below W2.heap.size W2 W3 := hb11'.trans hB3
          have h13 : Below W1.heap.size W1 W3 := below_then hB2 hB2.size h23
          have h83 : Below w8.heap.size w8 W3 := below_then hB1 hB1.size h13
          have hb3' := chn hb8 h83
          have hlz : (comes Lz).length ≤ 65600 := by have := plc_len (wf Lz) Lz.length; have := HLZ.out; show (plc (wf Lz) Lz.length).length ≤ _; omega
          obtain ⟨A14, c14, rfl⟩ := own_slice ov1
          obtain ⟨A16, c16, rfl⟩ := own_slice ov2
          obtain ⟨A19, c19, rfl⟩ := own_slice ov3
          have q14 : Boxed W3 w8.heap.size 32 _ := (h13.block w8.heap.size bv1.lt).trans bv1
          have q16 : Boxed W3 W1.heap.size 32 _ := (h23.block W1.heap.size bv2.lt).trans bv2
          have B14 : Bx W3 w8.heap.size #[.slice A14 F.length c14] := ⟨_, q14⟩
          have B16 : Bx W3 W1.heap.size #[.slice A16 (comes L).length c16] := ⟨_, q16⟩
          have B19 : Bx W3 W2.heap.size #[.slice A19 (comes Lz).length c19] := ⟨_, bv3'⟩
          have B6 := FX.out.on h83
          have r14 := own_C_int (pw_own_below ov1 h13)
          have r16 := own_C_int (pw_own_below ov2 h23)
          have r19 := own_C_int ov3
          have rP := own_C_int (pw_own_below FP.out h83)
          have lP := own_le FP.out
          have l14 := own_le ov1
          have l16 := own_le ov2
          have l19 := own_le ov3
          have hFl : F.length ≤ (comes L).length := by rw [← HF.out, List.length_take]; omega
          have rF := Kd.C_take rP hFl
          have eF : (comes L).take F.length = F := by rw [← HF.out, List.length_take, ← List.take_eq_take_min]
          rw [eF] at rF
          have lF : F.length ≤ cp := Nat.le_trans hFl lP
          have FL3 := FL.out.on h83
          have c14_ := B14.c 0 _ rfl
          have hF6 : F.length ≤ 65600 := Nat.le_trans hFl hcl
          have HDS := Aside0.mk (show (D1 < W1.heap.size ∧ W1.heap.size ≤ D2 ∧ D2 < W2.heap.size ∧ W2.heap.size ≤ D3 ∧ D3 < W3.heap.size ∧ w.heap.size ≤ D1) ∧ W3.heap[D1]? = some (.deferred (some [])) ∧ W3.heap[D2]? = some (.deferred (some [])) ∧ W3.heap[D3]? = some (.deferred (some [])) from by
            have a1 := (Array.getElem?_eq_some_iff.1 hKD1).1
            have a2 := (Array.getElem?_eq_some_iff.1 hKD2).1
            have a3 := (Array.getElem?_eq_some_iff.1 hKD3).1
            have a4 := hb8.size
            have a5 : W1.heap.size + 1 ≤ D2 := by simpa using hD2
            exact ⟨⟨a1, by omega, a2, by omega, a3, by omega⟩, (h13.block D1 a1).trans hKD1, (h23.block D2 a2).trans hKD2, hKD3⟩)
          show K3_ _ _
          refine HKc.out _ _ ?_
          clear HKc eF bv1 ov1 bv2 ov2 bv3' ov3 q14 q16 hgn2 hge2 hgn hbs2 hgl2 hge2' hD3 hzs hD2 hys hB3 h23 h13 h83 hB2 hB1 hb11 hb11' hb1 hb2 hb3 hb8 hlt3 bv3 hw11 hown2 hst2 hst1 hst hgl hgl1 FB1
          gi_wp2_with (first
            | (refine ⟨trivial, ?_⟩; gi_at_call 15; with_reducible refine (callsIn_wide.2 (vivariumlaw02_same.calls k A14 c14 F Ap cp F true _ r14 l14 rF lF (HSM.out F hF6))).mono ?_; rintro e_ w12 ⟨rfl, hd⟩; have hb := drewB hd; clear c14_ hd; have T16 := B16.on hb; have T19 := B19.on hb; have T6 := B6.on hb; have s16 := Kd.C_below r16 hb; have s19 := Kd.C_below r19 hb; have sP := Kd.C_below rP hb; have FL4 := FL3.on hb; have h12 := chn hb3' hb; have HD12 := Aside0.mk hb; have c16_ := T16.c 0 _ rfl; clear hb)
            | (refine ⟨trivial, ?_⟩; gi_at_call 15; with_reducible refine (callsIn_wide.2 (vivariumlaw02_same.calls k A16 c16 (comes L) Ap cp (comes L) true _ s16 l16 sP lP (HSM.out (comes L) hcl))).mono ?_; rintro e_ w13 ⟨rfl, hd⟩; have hb := drewB hd; clear c16_ hd; have U19 := T19.on hb; have U6 := T6.on hb; have t19 := Kd.C_below s19 hb; have FL5 := FL4.on hb; have h13' := chn h12 hb; have HD13 := Aside0.mk hb; have c19_ := U19.c 0 _ rfl; have x0_ := U6.c 0 _ rfl; have x1_ := U6.c 1 _ rfl; clear hb))
          have hfol : Tryd.prog.follows .mixedOrders = true := by kernel_rfl
          have hD13 := below_drew (Below.refl w13.heap.size w13)
          refine wpIn_region_any hfol ?_
          change wpAnyIn _ _ _ _ _ _ _ _ _ (World.drew _)
          refine wpAnyIn_ready (rs := [0, 1]) (by kernel_rfl) (by simp) ?_
          refine AllReadyIn.cons rfl (fun K_ hK_ => ?_) ?_
          · go_simp
            refine hK_ _ _ ?_
            clear hK_ K_
            refine wpAnyIn_ready (rs := [1]) (by kernel_rfl) (by simp) ?_
            refine AllReadyIn.cons rfl (fun K_ hK_ => ?_) ?_
            · go_simp
              refine hK_ _ _ ?_
              clear hK_ K_
              refine wpAnyIn_ready (rs := [2]) (by kernel_rfl) (by simp) ?_
              refine AllReadyIn.cons rfl (fun K_ hK_ => ?_) ?_
              · go_simp
                gi_wp2_with (refine ⟨trivial, ?_⟩; gi_at_call 11; have h_ := vivariumref02_Places.calls k n (some ⟨g0, 0, none⟩) d0 Xz (comes Lz) w13.drew (Kd.C_below FL5.C hD13) (by have := FL5.cap; omega) PZ.out; rw [HXL.out] at h_; with_reducible refine (callsIn_wide.2 h_).mono ?_; clear h_; rintro e_ w14 ⟨v20, rfl, hv, hb⟩; have ho := own_of_R_int hv; obtain ⟨A20, c20, rfl⟩ := own_slice ho; have hb14 := chn hD13 hb; have y19 := Kd.C_below t19 hb14; have y20 := own_C_int ho; have l20 := own_le ho; have V19 := U19.on hb14; (try clear c19_); (try clear x0_); (try clear x1_); have c19_ := V19.c 0 _ rfl; clear hv hb ho)
                refine wpAnyIn_ready (rs := [3]) (by kernel_rfl) (by simp) ?_
                refine AllReadyIn.cons rfl (fun K_ hK_ => ?_) ?_
                · go_simp
                  gi_wp2_with (refine ⟨trivial, ?_⟩; gi_at_call 15; with_reducible refine (callsIn_wide.2 (vivariumlaw02_same.calls k A19 c19 (comes Lz) A20 c20 (comes Lz) true _ y19 l19 y20 l20 (HSM.out (comes Lz) hlz))).mono ?_; rintro e_ w15 ⟨rfl, hd⟩; have hb15 := drewB hd; clear hd)
                  refine wpAnyIn_ready (rs := [4]) (by kernel_rfl) (by simp) ?_
                  refine AllReadyIn.cons rfl (fun K_ hK_ => ?_) ?_
                  · go_simp
                    refine hK_ _ _ ?_
                    clear hK_ K_
                    refine wpAnyIn_done (by kernel_rfl) ?_ _
                    gi_wp2
                    have hb3f := chn (chn (chn HD12.out HD13.out) hb14) hb15
                    obtain ⟨⟨a1, a2, a3, a4, a5, a6⟩, k1, k2, k3⟩ := HDS.out
                    have j1 := (hb3f.block D1 (by omega)).trans k1
                    have j2 := (hb3f.block D2 (by omega)).trans k2
                    have j3 := (hb3f.block D3 (by omega)).trans k3
                    have i2 := (World.putObj_heap_other (w := w15) (o := .deferred none) (show D2 ≠ D3 by omega)).trans j2
                    have i1 := (World.putObj_heap_other (w := w15) (o := .deferred none) (show D1 ≠ D3 by omega)).trans j1
                    have f1 := (World.putObj_heap_other (w := w15.putObj D3 (.deferred none)) (o := .deferred none) (show D1 ≠ D2 by omega)).trans i1
                    refine ⟨by simp, .inl ⟨D3, _, rfl, run_takeDeferred j3, ⟨by simp, .inl ⟨D2, _, rfl, run_takeDeferred i2, ⟨by simp, .inl ⟨D1, _, rfl, run_takeDeferred f1, ?_⟩⟩⟩⟩⟩⟩
                    refine ⟨_, results_tmp (t := 4) rfl _ _ _, rfl, ?_⟩
                    have hwf := chn hb3' hb3f
                    have q3 := belowK_b (w := w) (Nat.le_refl _) w15 D3 _ (.deferred none) (by omega) j3 rfl rfl
                    have q2 := belowK_b (w := w) (Nat.le_refl _) (w15.putObj D3 (.deferred none)) D2 _ (.deferred none) (by omega) i2 rfl rfl
                    have q1 := belowK_b (w := w) (Nat.le_refl _) ((w15.putObj D3 (.deferred none)).putObj D2 (.deferred none)) D1 _ (.deferred none) (by omega) f1 rfl rfl
                    exact ((hwf.trans q3).trans q2).trans q1
                  exact AllReadyIn.nil
                exact AllReadyIn.nil
              exact AllReadyIn.nil
            exact AllReadyIn.nil
          refine AllReadyIn.cons rfl (fun K_ hK_ => ?_) ?_
          · go_simp
            refine hK_ _ _ ?_
            clear hK_ K_
            refine wpAnyIn_ready (rs := [0, 2]) (by kernel_rfl) (by simp) ?_
            refine AllReadyIn.cons rfl (fun K_ hK_ => ?_) ?_
            · go_simp
              refine hK_ _ _ ?_
              clear hK_ K_
              refine wpAnyIn_ready (rs := [2]) (by kernel_rfl) (by simp) ?_
              refine AllReadyIn.cons rfl (fun K_ hK_ => ?_) ?_
              · go_simp
                gi_wp2_with (refine ⟨trivial, ?_⟩; gi_at_call 11; have h_ := vivariumref02_Places.calls k n (some ⟨g0, 0, none⟩) d0 Xz (comes Lz) w13.drew (Kd.C_below FL5.C hD13) (by have := FL5.cap; omega) PZ.out; rw [HXL.out] at h_; with_reducible refine (callsIn_wide.2 h_).mono ?_; clear h_; rintro e_ w14 ⟨v20, rfl, hv, hb⟩; have ho := own_of_R_int hv; obtain ⟨A20, c20, rfl⟩ := own_slice ho; have hb14 := chn hD13 hb; have y19 := Kd.C_below t19 hb14; have y20 := own_C_int ho; have l20 := own_le ho; have V19 := U19.on hb14; (try clear c19_); (try clear x0_); (try clear x1_); have c19_ := V19.c 0 _ rfl; clear hv hb ho)
                refine wpAnyIn_ready (rs := [3]) (by kernel_rfl) (by simp) ?_
                refine AllReadyIn.cons rfl (fun K_ hK_ => ?_) ?_
                · go_simp
                  gi_wp2_with (refine ⟨trivial, ?_⟩; gi_at_call 15; with_reducible refine (callsIn_wide.2 (vivariumlaw02_same.calls k A19 c19 (comes Lz) A20 c20 (comes Lz) true _ y19 l19 y20 l20 (HSM.out (comes Lz) hlz))).mono ?_; rintro e_ w15 ⟨rfl, hd⟩; have hb15 := drewB hd; clear hd)
                  refine wpAnyIn_ready (rs := [4]) (by kernel_rfl) (by simp) ?_
                  refine AllReadyIn.cons rfl (fun K_ hK_ => ?_) ?_
                  · go_simp
                    refine hK_ _ _ ?_
                    clear hK_ K_
                    refine wpAnyIn_done (by kernel_rfl) ?_ _
                    gi_wp2
                    have hb3f := chn (chn (chn HD12.out HD13.out) hb14) hb15
                    obtain ⟨⟨a1, a2, a3, a4, a5, a6⟩, k1, k2, k3⟩ := HDS.out
                    have j1 := (hb3f.block D1 (by omega)).trans k1
                    have j2 := (hb3f.block D2 (by omega)).trans k2
                    have j3 := (hb3f.block D3 (by omega)).trans k3
                    have i2 := (World.putObj_heap_other (w := w15) (o := .deferred none) (show D2 ≠ D3 by omega)).trans j2
                    have i1 := (World.putObj_heap_other (w := w15) (o := .deferred none) (show D1 ≠ D3 by omega)).trans j1
                    have f1 := (World.putObj_heap_other (w := w15.putObj D3 (.deferred none)) (o := .deferred none) (show D1 ≠ D2 by omega)).trans i1
                    refine ⟨by simp, .inl ⟨D3, _, rfl, run_takeDeferred j3, ⟨by simp, .inl ⟨D2, _, rfl, run_takeDeferred i2, ⟨by simp, .inl ⟨D1, _, rfl, run_takeDeferred f1, ?_⟩⟩⟩⟩⟩⟩
                    refine ⟨_, results_tmp (t := 4) rfl _ _ _, rfl, ?_⟩
                    have hwf := chn hb3' hb3f
                    have q3 := belowK_b (w := w) (Nat.le_refl _) w15 D3 _ (.deferred none) (by omega) j3 rfl rfl
                    have q2 := belowK_b (w := w) (Nat.le_refl _) (w15.putObj D3 (.deferred none)) D2 _ (.deferred none) (by omega) i2 rfl rfl
                    have q1 := belowK_b (w := w) (Nat.le_refl _) ((w15.putObj D3 (.deferred none)).putObj D2 (.deferred none)) D1 _ (.deferred none) (by omega) f1 rfl rfl
                    exact ((hwf.trans q3).trans q2).trans q1
                  exact AllReadyIn.nil
                exact AllReadyIn.nil
              exact AllReadyIn.nil
            refine AllReadyIn.cons rfl (fun K_ hK_ => ?_) ?_
            · go_simp
              gi_wp2_with (refine ⟨trivial, ?_⟩; gi_at_call 11; have h_ := vivariumref02_Places.calls k n (some ⟨g0, 0, none⟩) d0 Xz (comes Lz) w13.drew (Kd.C_below FL5.C hD13) (by have := FL5.cap; omega) PZ.out; rw [HXL.out] at h_; with_reducible refine (callsIn_wide.2 h_).mono ?_; clear h_; rintro e_ w14 ⟨v20, rfl, hv, hb⟩; have ho := own_of_R_int hv; obtain ⟨A20, c20, rfl⟩ := own_slice ho; have hb14 := chn hD13 hb; have y19 := Kd.C_below t19 hb14; have y20 := own_C_int ho; have l20 := own_le ho; have V19 := U19.on hb14; (try clear c19_); (try clear x0_); (try clear x1_); have c19_ := V19.c 0 _ rfl; clear hv hb ho)
              refine wpAnyIn_ready (rs := [0]) (by kernel_rfl) (by simp) ?_
              refine AllReadyIn.cons rfl (fun K_ hK_ => ?_) ?_
              · go_simp
                refine hK_ _ _ ?_
                clear hK_ K_
                refine wpAnyIn_ready (rs := [3]) (by kernel_rfl) (by simp) ?_
                refine AllReadyIn.cons rfl (fun K_ hK_ => ?_) ?_
                · go_simp
                  gi_wp2_with (refine ⟨trivial, ?_⟩; gi_at_call 15; with_reducible refine (callsIn_wide.2 (vivariumlaw02_same.calls k A19 c19 (comes Lz) A20 c20 (comes Lz) true _ y19 l19 y20 l20 (HSM.out (comes Lz) hlz))).mono ?_; rintro e_ w15 ⟨rfl, hd⟩; have hb15 := drewB hd; clear hd)
                  refine wpAnyIn_ready (rs := [4]) (by kernel_rfl) (by simp) ?_
                  refine AllReadyIn.cons rfl (fun K_ hK_ => ?_) ?_
                  · go_simp
                    refine hK_ _ _ ?_
                    clear hK_ K_
                    refine wpAnyIn_done (by kernel_rfl) ?_ _
                    gi_wp2
                    have hb3f := chn (chn (chn HD12.out HD13.out) hb14) hb15
                    obtain ⟨⟨a1, a2, a3, a4, a5, a6⟩, k1, k2, k3⟩ := HDS.out
                    have j1 := (hb3f.block D1 (by omega)).trans k1
                    have j2 := (hb3f.block D2 (by omega)).trans k2
                    have j3 := (hb3f.block D3 (by omega)).trans k3
                    have i2 := (World.putObj_heap_other (w := w15) (o := .deferred none) (show D2 ≠ D3 by omega)).trans j2
                    have i1 := (World.putObj_heap_other (w := w15) (o := .deferred none) (show D1 ≠ D3 by omega)).trans j1
                    have f1 := (World.putObj_heap_other (w := w15.putObj D3 (.deferred none)) (o := .deferred none) (show D1 ≠ D2 by omega)).trans i1
                    refine ⟨by simp, .inl ⟨D3, _, rfl, run_takeDeferred j3, ⟨by simp, .inl ⟨D2, _, rfl, run_takeDeferred i2, ⟨by simp, .inl ⟨D1, _, rfl, run_takeDeferred f1, ?_⟩⟩⟩⟩⟩⟩
                    refine ⟨_, results_tmp (t := 4) rfl _ _ _, rfl, ?_⟩
                    have hwf := chn hb3' hb3f
                    have q3 := belowK_b (w := w) (Nat.le_refl _) w15 D3 _ (.deferred none) (by omega) j3 rfl rfl
                    have q2 := belowK_b (w := w) (Nat.le_refl _) (w15.putObj D3 (.deferred none)) D2 _ (.deferred none) (by omega) i2 rfl rfl
                    have q1 := belowK_b (w := w) (Nat.le_refl _) ((w15.putObj D3 (.deferred none)).putObj D2 (.deferred none)) D1 _ (.deferred none) (by omega) f1 rfl rfl
                    exact ((hwf.trans q3).trans q2).trans q1
                  exact AllReadyIn.nil
                exact AllReadyIn.nil
              exact AllReadyIn.nil
            exact AllReadyIn.nil
          exact AllReadyIn.nil
      have hle : (comes L).length ≤ cp := own_le FP.out
      have hcl' := hcl
      rw [hlp] at hcl' hle ⊢
      by_cases hq : most < (lp : Int)
      · gi_wp2
        all_goals
          refine HK3.out _ ?_ _ _ _ _ _ _ _ _
          rw [← HF.out, List.length_take, hlp]
          omega
      · gi_wp2
        refine HK3.out _ ?_ _ _ _ _ _ _ _ _
        rw [← HF.out, List.length_take, hlp]
        omega
  clear hK1_
  refine wpIn_rangeFunc_ownF (α := Pl (wf L) L.length) rfl (by decide) (gf := 34) (lb := #[.pointer (some ⟨Bs, 0, none⟩)]) rfl trivial (enters_of Tryd.func34 (by kernel_rfl) rfl)
    hst (fun h k => KpB.trans h k) ?kb (below_alloc (Below.refl _ _) _) (fun _ => rfl)
    (fun pre W => (∃ v, Boxed W w8.heap.size 32 v ∧ W.ownsRow w8.heap.size 3 1 v (vals pre).length ((vals pre).map (Value.int .i64)) ∧ (vals pre).length ≤ m) ∧ Below w8.heap.size w8 W)
    (fun cd pre W => (∃ v, Boxed W w8.heap.size 32 v ∧ W.ownsRow w8.heap.size 3 1 v (but1 pre).length ((but1 pre).map (Value.int .i64)) ∧ (cd = .exit 0 ∧ (but1 pre).length = m)) ∧ Below w8.heap.size w8 W)
    (OwnFrom.and (Own.from (holdsRow_own w8.heap.size w8.heap.size 32 3 1 (fun pre => (vals pre).length) (fun pre => (vals pre).map (Value.int .i64)) (fun pre _ => (vals pre).length ≤ m)) _) (ownFrom_below (Nat.le_refl _) (by simp)))
    (fun cd => OwnFrom.and (Own.from (holdsRow_own w8.heap.size w8.heap.size 32 3 1 (fun pre => (but1 pre).length) (fun pre => (but1 pre).map (Value.int .i64)) (fun pre _ => cd = .exit 0 ∧ (but1 pre).length = m)) _) (ownFrom_below (Nat.le_refl _) (by simp)))
    ⟨⟨_, Boxed.new w8 32 (.slice none 0 0), World.ownsRow_nil _ _ _ _, Nat.zero_le _⟩, below_alloc (Below.refl _ _) _⟩
    (fun x => { tmps := #[.agg #[.int .i64 n, .slice A X.length c], .int .i64 most, .pointer (some ⟨w.heap.size, 0, none⟩), .pointer (some ⟨w.heap.size + 1, 0, none⟩), .bool false, .bool true, .pointer (some ⟨w2.heap.size, 0, none⟩), .int .i64 a, .int .i64 e, .int .i64 a, .int .i64 e, .slice Ap (comes L).length cp, .func (.func 34) #[] #[.pointer (some ⟨Bs, 0, none⟩)], .bool true, .pointer (some ⟨w8.heap.size, 0, none⟩), .int .i64 x.1, undef, undef, undef, undef, undef, undef, undef, undef, .bool true, .agg #[.int .i64 n, .slice A X.length c], .agg #[.int .i64 n, .slice (some ⟨g0, 0, none⟩) X.length d0], .tuple #[.int .i64 a, .int .i64 e], .agg #[.int .i64 n, .slice A X.length c], .tuple #[.int .i64 a, .int .i64 e], .int .i64 a, .int .i64 e, .tuple #[.int .i64 a, .int .i64 e], .agg #[.int .i64 n, .slice (some ⟨g0, 0, none⟩) X.length d0], .tuple #[.int .i64 a, .int .i64 e], .int .i64 a, .int .i64 e, .int .i64 a, .int .i64 a, .bool false, .bool false, .int .i64 e, .int .i64 e, .bool false, .bool false, .agg #[.int .i64 n, .slice A X.length c], .slice Ap (comes L).length cp, .agg #[.int .i64 n, .slice (some ⟨g0, 0, none⟩) X.length d0], .func (.func 34) #[] #[.pointer (some ⟨Bs, 0, none⟩)], .func (.func 34) #[] #[.pointer (some ⟨Bs, 0, none⟩)], .bool false, .agg #[.int .i64 n, .slice (some ⟨g0, 0, none⟩) X.length d0], .agg #[.int .i64 n, .slice A X.length c], .bool true, .agg #[.int .i64 n, .slice (some ⟨g0, 0, none⟩) X.length d0], .tuple #[], .func (.func 34) #[] #[.pointer (some ⟨Bs, 0, none⟩)], .int .i64 x.1, undef, undef, undef, undef, undef, undef, undef, undef, undef, undef, undef, undef, undef, undef, undef, undef, undef, undef, undef, undef, undef, undef, undef, undef, undef, undef, undef, undef, undef, undef, undef, undef, undef, undef, undef, undef, undef, undef, undef, undef, undef, undef, undef, undef, undef, undef, undef, undef, undef, undef, undef, undef, undef], defers := [] }) ?assign ?body ?done ?stop
  case kb =>
    intro W l o o' hl h1 h2 h3 q hq
    refine World.putObj_heap_other ?_
    have := FB.out.lt
    simp at hq hl
    omega
  case assign =>
    intro l x W K hK
    gi_wp2
    exact hK
  case stop =>
    rintro D cd pre W hD hpre ⟨⟨v, bv, ov, rfl, hlen⟩, hB⟩ hK
    gi_wp2
    have e : (but1 pre) = (comes L).take m := by
      have h1 : (vals pre).dropLast <+: comes L := List.IsPrefix.trans (List.dropLast_prefix _) hpre
      have h1 : but1 pre <+: comes L := h1
      rw [List.prefix_iff_eq_take.1 h1, hlen]
    rw [e] at ov
    exact HK1.out D W v bv ov hB (by simpa using hD) hK
  case done =>
    rintro D ys W hD hys ⟨⟨v, bv, ov, hle⟩, hB⟩ hK
    gi_wp2
    have e : vals ys = (comes L).take m := by rw [← hys, List.take_of_length_le hle]
    rw [e] at ov
    exact HK1.out D W v bv ov hB (by simpa using hD) hK
  case body =>
    rintro l pre x W ⟨⟨v, hv, hrow, hle⟩, hB⟩ hlt
    have hc := hv.cell
    have hf := hv.frozen
    obtain ⟨Av, cv, rfl⟩ := own_slice hrow
    have hmb := FM.out.on hB
    have m0_ := hmb.c 0 _ rfl
    have hvl : (vals (pre ++ [x])) = vals pre ++ [x.1] := List.map_append
    have hdl : but1 (pre ++ [x]) = vals pre := by unfold but1; rw [hvl, List.dropLast_concat]
    have hvb : (vals pre).length < 65600 := by rw [show (vals pre).length = pre.length from List.length_map _]; exact hlt
    have hmx : (65601 : Nat) ≤ maxLen := by decide
    have hmt : m = most.toNat := hm_.symm
    have HDL := Aside0.mk hdl; have HVL := Aside0.mk hvl
    clear hdl hvl
    have HPL_ := Aside0.mk (show (vals pre).length = pre.length from List.length_map _)
    by_cases hge : most ≤ ((vals pre).length : Int)
    · gi_wp2
      refine ⟨KeepsOthers.refl _, ⟨_, hv, ?_, rfl, ?_⟩, hB⟩
      · rw [HDL.out]; exact hrow
      · rw [HDL.out]; omega
    · have hlt' : ((vals pre).length : Int) < most := by omega
      gi_wp2_with (gi_at_builtin; refine wpListIn_append_own _ rfl _ _ 32 rfl w8.heap.size 3 i0 (.int .i64 0) 1 8 Tryd.underlying32 hi hz0 hz1 hz2 rfl (by decide) _ _ _ rfl (hrow.alloc _) ⟨W.heap.size, 0, none⟩ 1 1 [.int .i64 x.1] rfl rfl (cell_one_new _ _ _) (by simp [Value.oneCell']) (by omega) (by omega) (by have := hB.size; simp; omega) ?_; intro v' w1' hown' hgrow _; obtain ⟨g', cap', rfl⟩ := ownsRow_succ hown'; obtain ⟨hv1, hv2, hr2, hk2, hb2⟩ := hv.appended (by decide) hrow hB.size (Nat.le_refl _) hown' hgrow; have hc1 := hv1.cell; have hf1 := hv1.frozen)
      refine ⟨hk2, ?_, ⟨_, hv2, ?_, ?_⟩, hB.trans hb2⟩
      · intro q hq
        have h3 : q < w8.heap.size := by
          have := FB.out.lt
          simp at hq
          omega
        exact hb2.block q h3
      · rw [HVL.out]; simpa using hr2
      · rw [HVL.out, List.length_append]; simp; omega
end Go.Proofs.YtlghmadoogblcaaDoor.OnesWalk
end
section
namespace Go.Proofs.YtlghmadoogblcaaDoor.Book
open Go Go.RowKit Go.Proofs.YtlghmadoogblcaaDoorW.PrintWords Go.Proofs.YtlghmadoogblcaaDoorW.PrintLast Go.Proofs.YtlghmadoogblcaaDoorW.PrintMore Go.Proofs.YtlghmadoogblcaaDoor.PS Go.Proofs.YtlghmadoogblcaaDoor.Bx
set_option linter.unusedVariables false
set_option linter.unusedSimpArgs false
end Go.Proofs.YtlghmadoogblcaaDoor.Book
end
section
namespace Go.Proofs.YtlghmadoogblcaaDoor.Pile
open Go Go.RowKit Go.Proofs.YtlghmadoogblcaaDoorW.PrintWords Go.Proofs.YtlghmadoogblcaaDoorW.PrintLast Go.Proofs.YtlghmadoogblcaaDoorW.PrintMore Go.Proofs.YtlghmadoogblcaaDoor.PS Go.Proofs.YtlghmadoogblcaaDoor.Bx Go.Proofs.YtlghmadoogblcaaDoor.Book Go.Proofs.YtlghmadoogblcaaDoor.Lent
set_option linter.unusedVariables false
set_option linter.unusedSimpArgs false
theorem same_loop (n : Int) (xs : List Int) (hl : xs.length ≤ 9223372036854775806) : ∀ (j : Nat) (k : Nat) (x : Int), 0 ≤ x → (x + j = xs.length) → j < k → vivariumref02_Same.l0 k x n xs n xs = some true := by
  intro j
  induction j with
  | zero =>
    intro k x h0 hx hk
    obtain ⟨k, rfl⟩ : ∃ q, k = q + 1 := ⟨k - 1, by omega⟩
    unfold vivariumref02_Same.l0
    rw [if_neg (by omega)]
  | succ j ih =>
    intro k x h0 hx hk
    obtain ⟨k, rfl⟩ : ∃ q, k = q + 1 := ⟨k - 1, by omega⟩
    unfold vivariumref02_Same.l0
    rw [if_pos (by omega), if_pos h0, if_pos (by omega), if_pos rfl]
    have hw : wrap64 (x + 1) = x + 1 := by unfold wrap64; omega
    rw [hw]
    exact ih k (x + 1) (by omega) (by omega) (by omega)
theorem same_self (k : Nat) (n : Int) (xs : List Int) (hl : xs.length ≤ 9223372036854775806) (hk : xs.length + 1 < k) : vivariumref02_Same.f k n xs n xs = some true := by
  obtain ⟨k, rfl⟩ : ∃ q, k = q + 1 := ⟨k - 1, by omega⟩
  unfold vivariumref02_Same.f
  rw [if_pos rfl]
  rw [show ((xs.length : Int) != (xs.length : Int)) = false from by simp]
  rw [vivariumref02_Same.j0, if_neg (by decide)]
  exact same_loop n xs hl xs.length k 0 (by omega) (by omega) (by omega)
structure Pile0 (w W : World) (T : List (Nat × List Value)) (L : List (Nat × Nat × List Int)) (B : List (Value × List Bool)) : Prop where
  be : Below w.heap.size w W
  box : ∀ p ∈ T, W.heap[p.1]? = some (.cells p.2.toArray 24 (0, 0))
  lent : ∀ (j : Nat) l, L[j]? = some l → LentIs w.heap.size W l.1 l.2.1 l.2.2
  lap : ∀ (i j : Nat) l m, i ≠ j → L[i]? = some l → L[j]? = some m → l.1 ≠ m.1
  bit : ∀ (j : Nat) p, B[j]? = some p → W.ownsRow w.heap.size 4 1 p.1 p.2.length (bools p.2)
  bd : ∀ (i j : Nat) p q, i ≠ j → T[i]? = some p → T[j]? = some q → p.1 ≠ q.1
section
variable {w W W' : World} {T : List (Nat × List Value)} {L : List (Nat × Nat × List Int)} {B : List (Value × List Bool)} {cs : List Value}
theorem get_snoc {α : Type} {l : List α} {a x : α} {j : Nat} (h : (l ++ [a])[j]? = some x) : l[j]? = some x ∨ (j = l.length ∧ x = a) := by
  rcases Nat.lt_or_ge j l.length with hj | hj
  · rw [List.getElem?_append_left hj] at h; exact .inl h
  · rw [List.getElem?_append_right hj] at h
    have h0 : j - l.length = 0 := by
      have := (List.getElem?_eq_some_iff.1 h).1
      simp at this; omega
    rw [h0] at h
    exact .inr ⟨by omega, by simpa using h.symm⟩
theorem Pile0.start (w : World) : Pile0 w w [] [] [] := ⟨Below.refl _ _, fun p hp => by simp at hp, fun j l h => by simp at h, fun i j l m _ h => by simp at h, fun j p h => by simp at h, fun i j p q _ h => by simp at h⟩
theorem Pile0.on (h : Pile0 w W T L B) (hb : Below W.heap.size W W') : Pile0 w W' T L B :=
  ⟨below_then h.be h.be.size hb, fun p hp => blk_below (h.box p hp) hb, fun j l hl => (h.lent j l hl).on hb, h.lap, fun j p hp => pw_own_below (h.bit j p hp) hb, h.bd⟩
theorem Pile0.push (h : Pile0 w W T L B) (cs : List Value) (a : Nat) (ha : a = W.heap.size) : Pile0 w (W.alloc (.cells cs.toArray 24)) (T ++ [(a, cs)]) L B := by
  have h' := h.on (below_alloc (Below.refl _ _) (.cells cs.toArray 24))
  have old : ∀ (j : Nat) p, T[j]? = some p → p.1 < W.heap.size := fun j p hj => blk_lt (h.box p (List.mem_of_getElem? hj))
  refine ⟨h'.be, fun p hp => ?_, h'.lent, h'.lap, h'.bit, fun i j p q hne hi hj => ?_⟩
  · rcases List.mem_append.1 hp with hp | hp
    · exact h'.box p hp
    · simp at hp
      subst hp
      subst ha
      exact blk_new W _
  · rcases get_snoc hi with hi | ⟨hi, rfl⟩
    · rcases get_snoc hj with hj | ⟨hj, rfl⟩
      · exact h.bd i j p q hne hi hj
      · have := old i p hi; show p.1 ≠ a; omega
    · rcases get_snoc hj with hj | ⟨hj, rfl⟩
      · have := old j q hj; show a ≠ q.1; omega
      · omega
theorem Pile0.cell (h : Pile0 w W T L B) {t : Nat} (ht : (t, cs) ∈ T) (j : Nat) (v : Value) (e : cs[j]? = some v) : W.cell? ⟨t, j, none⟩ = some v :=
  (blk_cell (h.box _ ht) j).trans (by simpa using e)
theorem Pile0.at_ (h : Pile0 w W T L B) {i t : Nat} (hi : T[i]? = some (t, cs)) : t < W.heap.size ∧ ∀ (j : Nat) (v : Value), cs[j]? = some v → W.cell? ⟨t, j, none⟩ = some v :=
  ⟨blk_lt (h.box _ (List.mem_of_getElem? hi)), fun j v e => h.cell (List.mem_of_getElem? hi) j v e⟩
theorem Pile0.C {j g c : Nat} {xs : List Int} (h : Pile0 w W T L B) (hj : L[j]? = some (g, c, xs)) : Kd.C (Kd.int .u64) W (some ⟨g, 0, none⟩) xs.length xs := (h.lent j _ hj).C
theorem Pile0.cap {j g c : Nat} {xs : List Int} (h : Pile0 w W T L B) (hj : L[j]? = some (g, c, xs)) : xs.length ≤ c := by have := (h.lent j _ hj).cap; show xs.length ≤ c; simp at this; omega
end
structure Pile (w W : World) (b : Nat) (gv wv : Value) (Z : List Ans) (ix : List Nat) (R : List (Value × List Int)) (T : List (Nat × List Value)) (L : List (Nat × Nat × List Int)) (B : List (Value × List Bool)) : Prop where
  p0 : Pile0 w W T L B
  book : BookIs w W b gv wv (gots Z) (wants Z)
  own : ∀ (j : Nat) p, R[j]? = some p → Owns w W p.1 p.2
  ap : ∀ (i j : Nat) p q, i ≠ j → R[i]? = some p → R[j]? = some q → p.1.ownBlock = none ∨ p.1.ownBlock ≠ q.1.ownBlock
  bx : ∀ p ∈ T, p.1 ≠ b ∧ some p.1 ≠ gv.ownBlock ∧ some p.1 ≠ wv.ownBlock
  la : ∀ (i j : Nat) l p, L[i]? = some l → R[j]? = some p → p.1.ownBlock ≠ some l.1
  zr : ∀ (j : Nat) z, Z[j]? = some z → (∃ i : Nat, ix[j]? = some i ∧ R[i]? = some (z.v, z.xs)) ∧ (∃ i : Nat, R[i]? = some (z.u, z.xs)) ∧ z.xs.length ≤ 2000000
section
variable {w W W' : World} {b : Nat} {gv wv : Value} {Z : List Ans} {ix : List Nat} {R : List (Value × List Int)} {T : List (Nat × List Value)} {L : List (Nat × Nat × List Int)} {B : List (Value × List Bool)} {cs : List Value}
theorem Pile.on (h : Pile w W b gv wv Z ix R T L B) (hb : Below W.heap.size W W') : Pile w W' b gv wv Z ix R T L B :=
  ⟨h.p0.on hb, h.book.on hb, fun j p hp => pw_own_below (h.own j p hp) hb, h.ap, h.bx, h.la, h.zr⟩
theorem raw_lt {ok : Nat → Prop} {base : Nat} {v : Value} {X : List (List Value)} (h : (Kd.raw 2).R 24 W base ok v X) (k : Nat) (hk : v.ownBlock = some k) : k < W.heap.size := (Kd.R_bound h).1 k hk |>.2.2.1
theorem Pile.push (h : Pile w W b gv wv Z ix R T L B) (cs : List Value) (a : Nat) (ha : a = W.heap.size) : Pile w (W.alloc (.cells cs.toArray 24)) b gv wv Z ix R (T ++ [(a, cs)]) L B := by
  have h' := h.on (below_alloc (Below.refl _ _) (.cells cs.toArray 24))
  refine ⟨h.p0.push cs a ha, h'.book, h'.own, h.ap, fun p hp => ?_, h.la, h.zr⟩
  rcases List.mem_append.1 hp with hp | hp
  · exact h.bx p hp
  · simp at hp
    subst hp
    subst ha
    refine ⟨fun e => ?_, fun e => ?_, fun e => ?_⟩
    · have := blk_lt h.book.hb; simp at e; omega
    · have := raw_lt h.book.rg _ e.symm; simp at this
    · have := raw_lt h.book.rh _ e.symm; simp at this
theorem Still.own {w W : World} {b : Nat} {gv0 wv0 gv wv v : Value} {base n : Nat} {e : TypeId} {xs : List Value} (h : Still b gv0 wv0 w W gv wv) (ho : w.ownsRow base e 1 v n xs)
    (hb : ∀ k, v.ownBlock = some k → k ≠ b ∧ some k ≠ gv0.ownBlock ∧ some k ≠ wv0.ownBlock) : W.ownsRow base e 1 v n xs := by
  refine own_move ho (fun k hk => ?_)
  obtain ⟨cs, hc⟩ := own_typed ho k hk
  obtain ⟨h1, h2, h3⟩ := hb k hk
  rw [hc]
  exact h.far k _ hc h1 h2 h3
theorem BookIs.ne {G H : List (List Value)} (h : BookIs w W b gv wv G H) {v : Value} {base n : Nat} {e : TypeId} {xs : List Value} (ho : W.ownsRow base e 1 v n xs) (h1 : 44 ≠ e) (h2 : 24 ≠ e) :
    ∀ k, v.ownBlock = some k → k ≠ b ∧ some k ≠ gv.ownBlock ∧ some k ≠ wv.ownBlock := by
  intro k hk
  obtain ⟨cs, hc⟩ := own_typed ho k hk
  refine ⟨?_, Kd.R_ne h.rg hc h2, Kd.R_ne h.rh hc h2⟩
  rintro rfl
  rw [h.hb] at hc
  injection hc with hc
  injection hc with _ hc
  exact h1 hc
theorem BookIs.grown {G H : List (List Value)} (h : BookIs w W b gv wv G H) {g : Nat} {cs : Array Value} (hg : W.grownBy W' (some g)) (hc : W.heap[g]? = some (.cells cs 58 (0, 0))) (hw : w.heap.size ≤ g) : BookIs w W' b gv wv G H := by
  have nb : b ≠ g := by
    rintro rfl
    rw [h.hb] at hc
    injection hc with hc
    injection hc with _ hc
    exact absurd hc (by decide)
  have f : ∀ {v : Value} {X : List (List Value)}, (Kd.raw 2).R 24 W w.heap.size (fun _ => True) v X → (Kd.raw 2).R 24 W' w.heap.size (fun _ => True) v X := fun hR =>
    Kd.R_mono (Kd.R_grown (Kd.R_types hR hc (by intro q hq; simp [Kd.raw] at hq; subst hq; decide)) hg (fun k hk e => hk.2 (Option.some.inj e))) (fun _ _ => trivial)
  exact ⟨blk_grown h.hb hg (fun e => nb (Option.some.inj e)), f h.rg, f h.rh, h.ap, h.be.grown hg h.be.size (fun k hk => by cases hk; exact hw), h.ge⟩
theorem Pile.wiped {i g c : Nat} {xs ys : List Int} (h : Pile w W b gv wv Z ix R T L B) (hi : L[i]? = some (g, c, xs)) (hg : W.grownBy W' (some g)) (hl : LentIs w.heap.size W' g c ys) : Pile w W' b gv wv Z ix R T (L.set i (g, c, ys)) B := by
  have ob := own_block (h.p0.lent i _ hi) g rfl
  obtain ⟨hw, cs, hc⟩ := ob
  have hil := (List.getElem?_eq_some_iff.1 hi).1
  have get : ∀ (j : Nat) l, (L.set i (g, c, ys))[j]? = some l → (j = i ∧ l = (g, c, ys)) ∨ (j ≠ i ∧ L[j]? = some l) := by
    intro j l hj
    rw [List.getElem?_set] at hj
    by_cases e : i = j
    · rw [if_pos e, if_pos hil] at hj
      exact .inl ⟨e.symm, (Option.some.inj hj).symm⟩
    · rw [if_neg e] at hj
      exact .inr ⟨fun x => e x.symm, hj⟩
  have lg : ∀ (j : Nat) l, (L.set i (g, c, ys))[j]? = some l → ∃ l', L[j]? = some l' ∧ l'.1 = l.1 := by
    intro j l hj
    rcases get j l hj with ⟨rfl, rfl⟩ | ⟨_, hj⟩
    · exact ⟨_, hi, rfl⟩
    · exact ⟨l, hj, rfl⟩
  refine ⟨⟨h.p0.be.grown hg h.p0.be.size (fun k hk => by cases hk; exact hw), fun p hp => blk_grown (h.p0.box p hp) hg ?_, fun j l hj => ?_, fun p q l m hne hp hq => ?_, fun q p hq => own_other (h.p0.bit q p hq) hg ?_, h.p0.bd⟩, BookIs.grown h.book hg hc hw, fun q p hq => own_other (h.own q p hq) hg (.inr (h.la i q _ p hi hq)), h.ap, h.bx, fun p q l r hp hq => ?_, h.zr⟩
  · intro e
    have e := Option.some.inj e
    have h1 := h.p0.box p hp
    rw [e, hc] at h1
    injection h1 with h1
    injection h1 with _ h1
    exact absurd h1 (by decide)
  · rcases get j l hj with ⟨rfl, rfl⟩ | ⟨hne, hj⟩
    · exact hl
    · exact own_other (h.p0.lent j l hj) hg (.inr (fun e => h.p0.lap j i l _ hne hj hi (Option.some.inj e)))
  · obtain ⟨l', hl', e1⟩ := lg p l hp
    obtain ⟨m', hm', e2⟩ := lg q m hq
    rw [← e1, ← e2]
    exact h.p0.lap p q l' m' hne hl' hm'
  · cases hp : p.1.ownBlock with
    | none => exact .inl rfl
    | some k =>
      right
      intro e
      cases e
      obtain ⟨cs', hc'⟩ := own_typed (h.p0.bit q p hq) g hp
      rw [hc] at hc'
      injection hc' with hc'
      injection hc' with _ hc'
      exact absurd hc' (by decide)
  · obtain ⟨l', hl', e1⟩ := lg p l hp
    rw [← e1]
    exact h.la p q l' r hl' hq
theorem Pile.drop {D T1 : List (Nat × List Value)} (h : Pile w W b gv wv Z ix R T1 L B) (hT : T1 = T ++ D) : Pile w W b gv wv Z ix R T L B := by
  subst hT
  exact ⟨⟨h.p0.be, fun p hp => h.p0.box p (List.mem_append_left _ hp), h.p0.lent, h.p0.lap, h.p0.bit, fun i j p q hne hi hj => h.p0.bd i j p q hne (by rw [List.getElem?_append_left (List.getElem?_eq_some_iff.1 hi).1]; exact hi) (by rw [List.getElem?_append_left (List.getElem?_eq_some_iff.1 hj).1]; exact hj)⟩,
    h.book, h.own, h.ap, fun p hp => h.bx p (List.mem_append_left _ hp), h.la, h.zr⟩
end
end Go.Proofs.YtlghmadoogblcaaDoor.Pile
end
section
namespace Go.Proofs.YtlghmadoogblcaaDoor.OnesWalk
open Go Go.RowKit Go.Proofs.YtlghmadoogblcaaDoorW.PrintWords Go.Proofs.YtlghmadoogblcaaDoorW.PrintLast Go.Proofs.YtlghmadoogblcaaDoorW.PrintMore Go.Proofs.YtlghmadoogblcaaDoor.PW Go.Proofs.YtlghmadoogblcaaDoor.PB Go.Proofs.YtlghmadoogblcaaDoor.OnesAgree
set_option linter.unusedVariables false
theorem law (n most : Int) (A : Option Addr) (c : Nat) (X : List Int) (w : World) (hT : Tz.Tab w) (hr : Kd.C (Kd.int .u64) w A X.length X) (hl : X.length ≤ c) (hm : X.length ≤ 17592186043904) (hu : RefPlain.U64 X) :
    Calls Tryd.prog 3 #[.agg #[.int .i64 n, .slice A X.length c], .int .i64 most] w fun e w' => e = .returned (.bool true) ∧ Below w.heap.size w w' := by
  obtain ⟨k, hk⟩ : ∃ k, k = 17592186043908 := ⟨_, rfl⟩
  have hz := RefPlain.u64_wiped X
  obtain ⟨a, e, L, o1, o2, bt, pl, hL, hU⟩ := ones_agree n X hu k (by omega)
  obtain ⟨_, _, Lz, _, _, bz, pz, hLz, hUz⟩ := ones_agree n _ hz k (by omega)
  exact core k n most A c X _ L Lz a e w hr hl hm hT (by omega) (at_rounds (g := fun k => vivariumlaw02_alive.f k) (fun k => vivariumlaw02_alive.mono k) (by omega) Alive.alive_true) rfl o1 o2 bt pl hL hU bz pz hLz hUz (Pile.same_self k _ _ (by omega) (by omega)) (fun l hl => same_spec l hl k (by omega))
end Go.Proofs.YtlghmadoogblcaaDoor.OnesWalk
end
section
namespace Go.Proofs.YtlghmadoogblcaaDoor.OpenRow
open Go Go.RowKit Go.Proofs.YtlghmadoogblcaaDoorW.PrintWords Go.Proofs.YtlghmadoogblcaaDoor.RefPlain
set_option linter.unusedVariables false
theorem open_words {H : Type} {enc : TypeId × Value → H} {P : Program} {w : World} {base n : Nat} {spare : Nat → Bool} {held : Bool} {t e : TypeId} {v : Value} {x : DataW H × List MemPlace} (ht : P.underlying t = some (.slice e)) (he : P.underlying e = some (.int .u64)) (hc : P.cellsOf e = 1)
    (h : DataW.trod enc P w base spare held n t [v] = some x) : ∃ (A : Option Addr) (c : Nat) (zs : List Int), v = .slice A zs.length c ∧ zs.length ≤ c ∧ Kd.C (Kd.int .u64) w A zs.length zs ∧ U64 zs ∧ (zs.length = 0 ∨ ∃ elems rest, elems.length = zs.length ∧ x.1 = .slice elems rest) := by
  rcases Go.ChangeShapes.open_ints ht he hc h with ⟨h1, _⟩ | ⟨a, len, cap, zs, h1, _, hl, hm, hz, hx, hcell, hwf⟩
  · obtain rfl : v = .slice none 0 0 := by simpa using h1
    exact ⟨none, 0, [], rfl, Nat.le_refl _, Kd.C_nil _ _, fun v hv => by simp at hv, .inl rfl⟩
  · obtain rfl : v = .slice (some a) len cap := by simpa using h1
    have hzl : len ≤ zs.length := by rw [hz]; split <;> omega
    have hlen : (zs.take len).length = len := by simp; omega
    refine ⟨some a, cap, zs.take len, by rw [hlen], by rw [hlen]; exact hl, ⟨rfl, by rw [hlen]; simp [maxLen] at hm; omega, fun _ => ⟨a, rfl, fun j p hj => ⟨[.int .u64 p], rfl, rfl, fun i u hu => ?_⟩⟩⟩, fun q hq => ?_, .inr ⟨_, _, ?_, by rw [hx]⟩⟩
    · have hj' : j < len := by
        have := (List.getElem?_eq_some_iff.1 hj).1
        omega
      have hp : zs[j]? = some p := by rwa [List.getElem?_take_of_lt hj'] at hj
      match i, hu with
      | 0, hu =>
        obtain rfl : Value.int .u64 p = u := by simpa using hu
        have := hcell j (by omega)
        rw [List.getD_eq_getElem?_getD, hp] at this
        simpa [Kd.int, Kd.scalar] using this
      | i + 1, hu => simp at hu
    · have := hwf q (List.mem_of_mem_take hq)
      simp [Lit.wf, IntKind.min, IntKind.max, IntKind.bits, IntKind.signed] at this
      omega
    · simp [Go.ChangeShapes.lits]
theorem sized_words {H : Type} {P : Program} {ts : List TypeId} {ds : List (DataW H)} (h : (DataW.weightsEach P ts ds).all (· ≤ reachBytes) = true) {j t f0 f1 e : Nat} {fs : Array Field} {d0 : DataW H} {elems spare : List (DataW H)} (ht : ts[j]? = some t) (hd : ds[j]? = some (.agg [d0, .slice elems spare]))
    (hs : P.underlying t = some (.struct fs)) (hf : fs.toList.map (·.type) = [f0, f1]) (hu : P.underlying f1 = some (.slice e)) (hb : P.bytesOf e = 8) : elems.length ≤ 17592186043904 := by
  have := List.all_eq_true.1 h _ (DataW.weights_mem_each ht hd ((elems.length + spare.length) * P.bytesOf e) (by simp [DataW.weights, hs, hf, hu, DataW.weightsEach]))
  rw [hb] at this
  have h2 : (elems.length + spare.length) * 8 ≤ reachBytes := by simpa using this
  have h3 : reachBytes = 140737488351232 := rfl
  omega
end Go.Proofs.YtlghmadoogblcaaDoor.OpenRow
end
section
namespace Go.Proofs.YtlghmadoogblcaaDoor.wordsOnes
open Go.ChangeShapes Go.WideShapes Go.ChangeAt Go.RowKit Go.Joins Go.Deep
open Go.ChangeMaps (open_string shut_string)
set_option linter.unusedVariables false
theorem own : ownKnob Tryd.prog.godebug = none := by kernel_rfl
theorem laidOut : laidOutB Tryd.prog = true := by kernel_rfl
theorem open_agg_2 {H : Type} {enc : TypeId × Value → H} {P : Program} {w : World} {base : Nat} {spare : Nat → Bool} {held : Bool} {r : Reach} {b0 : Nat} {t : TypeId} {f0 f1 : Field} {v : Value} {d : DataW H} {p : List MemPlace} (hs : P.underlying t = some (.struct #[f0, f1])) (hone : oneCellFields P #[f0, f1] = true) (hC : P.cellsOf t = 2)
    (hv : Value.okWide P w r b0 t v) (h : DataW.Trod enc P w base spare held t v d p) :
    ∃ (v0 v1 : Value) (y0 y1 : DataW H × List MemPlace) (n : Nat), v = .agg #[v0, v1] ∧ d = .agg [y0.1, y1.1] ∧ DataW.trod enc P w base spare held n f0.type [v0] = some y0 ∧ DataW.trod enc P w base spare held n f1.type [v1] = some y1 := by
  obtain ⟨cs, rfl, hsz⟩ := okWide_struct hs hv
  obtain ⟨l⟩ := cs
  match l, hsz.trans hC with
  | [c0, c1], _ =>
    obtain ⟨fuel, hf⟩ := h
    obtain ⟨xs, n, _, hx, _, hlen, hg⟩ := DataW.trod_struct hs hf
    obtain ⟨o0, k0⟩ := hone_of hone 0 f0 rfl
    obtain ⟨o1, k1⟩ := hone_of hone 1 f1 rfl
    match xs, hlen with
    | [y0, y1], _ =>
      simp only [Prod.mk.injEq] at hx
      exact ⟨c0, c1, y0, y1, n, rfl, by simpa using hx.1, by simpa [Value.cells, o0, k0] using hg 0 f0 rfl, by simpa [Value.cells, o1, k1] using hg 1 f1 rfl⟩
theorem laidPlain {W : World} (h : laidMetH Tryd.prog Rows.wordsOnesRow.laid W) : laidMet Tryd.prog Rows.wordsOnesRow.laid W := by
  rw [MakeChecks.laidMetH_plain _ _ _ (by kernel_rfl)] at h; exact h
theorem ctz {W : World} (h : laidMetH Tryd.prog Rows.wordsOnesRow.laid W) : Lib.TabIs Tryd.prog W "math/bits.deBruijn64tab" .u8 Tz.tab :=
  Lib.tabIs_of_head (g := 0) (t := 74) (e := 5) (n := 64) (by kernel_rfl) (by kernel_rfl) Tryd.underlying74 Tryd.underlying5 (by kernel_rfl) (by kernel_rfl) (laidPlain h)
theorem door_met (os : Os) (args : Array Value) : laidMetH Tryd.prog Rows.wordsOnesRow.laid ((World.doorLaid Tryd.prog 24 os).forCall (fun _ _ => 0) ⟨#[], args, []⟩).memory :=
  laidMetH_of_parts3 (fuel := 8) (laidMet_of_run' 8 (by kernel_rfl) (by kernel_rfl)) (by kernel_rfl) (by kernel_rfl)
set_option maxRecDepth 100000 in
theorem lifted (os : Os) (started : os.Started) (H : Type) (enc : TypeId × Value → H) :
    ReturnsInHanded {} Tryd.checked os 3 .any (fun w args => (Rows.wordsOnesSpec.pre enc Tryd.prog Tryd.f3 [] false w args ∧ laidMetH Tryd.prog Rows.wordsOnesRow.laid w) ∧ sizedMet enc Tryd.prog Tryd.f3 (OpenSpec.ofChange Rows.wordsOnesSpec) false w args) (Rows.wordsOnesSpec.post enc Tryd.prog Tryd.f3 false true false false) := by
  refine returnsInHanded_of_change_and (C := Tryd.checked) (X := fun w _ => laidMetH Tryd.prog Rows.wordsOnesRow.laid w) (fun _ _ _ hh h => h.of_heap hh) own started (by kernel_rfl) Tryd.func3
    (ChangeSpec.witness_shaped (enc := enc) (C := Tryd.checked) (os := os) (X := fun w _ => laidMetH Tryd.prog Rows.wordsOnesRow.laid w) false (World.doorLaid Tryd.prog 24 os) #[.agg #[.int .i64 0, .slice none 0 0], .int .i64 0] 8 rfl (World.shaped_of_RefB (by kernel_rfl) (by kernel_rfl)) (by kernel_rfl) (by kernel_rfl) (by kernel_rfl) (door_met os _)) ?_
  intro W base args ds gs before hval0 hW _ hsz0 hL _
  have hsz : (DataW.weightsEach Tryd.prog (Tryd.f3.params.toList ++ Rows.wordsOnesSpec.plain.varTypes Tryd.prog) (ds ++ gs)).all (· ≤ reachBytes) = true := hsz0
  have hval : ∀ (j : Nat) t v, Tryd.f3.params[j]? = some t → args[j]? = some v → Value.okWide Tryd.prog W .any base t v := hval0
  have hW' := hW
  obtain ⟨p, q, hA0, hV, rfl, hfz, hnd⟩ := hW
  have hA : DataW.TrodAll enc Tryd.prog W 0 (fun _ => true) true Tryd.f3.params.toList args.toList ds p := hA0
  rw [Tryd.params3] at hA hval hsz
  obtain ⟨v0, vs0, d0, ds0, p0, q0, hargs, rfl, rfl, h0, r0⟩ := trodAll_cons hA
  obtain ⟨v1, vs1, d1, ds1, p1, q1, rfl, rfl, rfl, h1, r1⟩ := trodAll_cons r0
  obtain ⟨rfl, rfl, rfl⟩ := trodAll_nil r1
  obtain rfl : args = #[v0, v1] := by cases args; simp_all
  obtain ⟨rfl, rfl⟩ := trodVars_none hV
  have k0 := h0
  have lt0 : ∀ x ∈ p0, x.block < W.heap.size := by obtain ⟨m, hm⟩ := k0; exact DataW.trod_lt m _ _ _ hm
  obtain ⟨c0_0, c0_1, x0_0, x0_1, m0, rfl, dd0, g0_0, g0_1⟩ := open_agg_2 Tryd.underlying24 (by kernel_rfl) (by kernel_rfl) (hval 0 24 v0 rfl rfl) h0
  obtain ⟨a0_0, e0_0, _, w0_0⟩ := DataW.trod_int Tryd.underlying3 g0_0
  obtain rfl : c0_0 = .int .i64 a0_0 := by simpa using e0_0
  have k1 := h1
  have lt1 : ∀ x ∈ p1, x.block < W.heap.size := by obtain ⟨m, hm⟩ := k1; exact DataW.trod_lt m _ _ _ hm
  obtain ⟨a1, rfl, rfl, rfl, w1⟩ := open_int Tryd.underlying3 (hval 1 3 v1 rfl rfl) h1
  clear hA0 hval0 hsz0
  have done : ∀ W', Below W.heap.size W W' → ∃ r, (Ending.returned (.bool true)) = .returned r ∧ Rows.wordsOnesSpec.post enc Tryd.prog Tryd.f3 false true false false W #[.agg #[.int .i64 a0_0, c0_1], .int .i64 a1] r W' := fun W' bel =>
    ⟨_, rfl, _, _, _, [], _, [], hW', trodAll_mk1 (shut_bool Tryd.underlying4 _), (trodAll_cons_mk (Below.trod laidOut (by kernel_rfl) (of_decide_eq_true (by kernel_rfl)) k0 bel lt0) (trodAll_cons_mk (Below.trod laidOut (by kernel_rfl) (of_decide_eq_true (by kernel_rfl)) k1 bel lt1) trodAll_mk0)), rfl, bel.frame _, fun h => by cases h⟩
  obtain ⟨A0, u0, l0, rfl, hc0, hr0, hu0, hx0⟩ := OpenRow.open_words Tryd.underlying22 Tryd.underlying58 (by kernel_rfl) g0_1
  have hm0 : l0.length ≤ 17592186043904 := by
    rcases hx0 with h_ | ⟨el, sp, hel, hx⟩
    · omega
    · rw [← hel]; exact OpenRow.sized_words hsz (j := 0) (d0 := x0_0.1) (elems := el) (spare := sp) rfl (by subst dd0; exact congrArg (fun q => some (Go.DataW.agg [x0_0.1, q])) hx) Tryd.underlying24 rfl Tryd.underlying22 (by kernel_rfl)
  refine (OnesWalk.law a0_0 a1 A0 u0 l0 W (ctz hL) hr0 hc0 hm0 hu0).mono fun e W' ⟨he, bel⟩ => ?_
  subst he
  exact done W' bel
theorem said : Rows.WordsOnesSaid :=
  OpenClaim.holds_of_wide 3 Tryd.f3 rfl rfl rfl rfl rfl rfl rfl ⟨rfl, rfl, rfl, rfl, rfl⟩ rfl rfl rfl rfl rfl (by kernel_rfl) Tryd.func3 (by kernel_rfl)
    (of_decide_eq_true (by kernel_rfl)) (by unfold Func.isWrapper; first | (rw [if_pos (by decide +kernel)]; kernel_rfl) | (rw [if_neg (by decide +kernel)]; exact ⟨rfl, rfl⟩))
    (fun os started H enc _ => lifted os started H enc)
theorem plain (f : FuncId) (fn : Func) (hf : Tryd.pinned.checked.prog.funcNamed "vivarium/vivariumlaw02.WordsOnes" = some f) (hfn : Tryd.pinned.checked.prog.funcs[f]? = some fn) :
    false = Tryd.pinned.checked.prog.looks [] ∧ ∀ (j : Nat) t, fn.params[j]? = some t → Tryd.pinned.checked.prog.wantsStandIn t = false := by
  obtain rfl : f = 3 := Option.some.inj ((show Tryd.prog.funcNamed "vivarium/vivariumlaw02.WordsOnes" = some 3 by kernel_rfl).symm.trans hf) |>.symm
  obtain rfl : fn = Tryd.f3 := (Option.some.inj (Tryd.func3.symm.trans hfn)).symm
  refine ⟨by kernel_rfl, fun j t ht => ?_⟩
  rw [Tryd.params3] at ht
  have hm : t ∈ [24, 3] := by simpa using Array.mem_of_getElem? ht
  have hall : ([24, 3].all fun u => !Tryd.prog.wantsStandIn u) = true := by kernel_rfl
  exact (show Tryd.prog.wantsStandIn t = false by simpa using List.all_eq_true.1 hall t hm)
theorem card : Rows.WordsOnesCardSaid :=
  Claim7.holds_tied_plain_at .later [] _ _ _ _ said (fun _ h => by cases h) (by kernel_rfl) (fun _ h => by cases h) wordsOnes_row_tie rfl ⟨rfl, rfl⟩ (by kernel_rfl) rfl plain (by kernel_rfl)
end Go.Proofs.YtlghmadoogblcaaDoor.wordsOnes
namespace Go.Proofs.YtlghmadoogblcaaDoor
theorem wordsOnes_holds : Rows.WordsOnesCardSaid := wordsOnes.card
#print axioms wordsOnes_holds
end Go.Proofs.YtlghmadoogblcaaDoor
end
