/- What the row of this claim leans on, part 5. -/
import Derived.Test.YtbnonnogkgbpiaaDoorKAts4
section
namespace Go.Proofs.YtbnonnogkgbpiaaDoor.PT
open Go.RowKit Go.Proofs.YtbnonnogkgbpiaaDoorW.PrintWords Go.Proofs.YtbnonnogkgbpiaaDoorW.PrintLast Go.Proofs.YtbnonnogkgbpiaaDoorW.PrintMore
attribute [local go_sem] max2_int min2_int max_two min_two max_three min_three max_four min_four   -- for this text's walks alone
set_option linter.unusedVariables false
set_option linter.unusedSimpArgs false
mutual
def vivariumref11_Alike.j0 : Nat → Bool → Int → Int → List (S49) → Int → Int → Int → List (S49) → Int → Option (Bool)
  | 0, _, _, _, _, _, _, _, _, _ => none
  | k + 1, x33, x128000, x128001, x128002, x128003, x129000, x129001, x129002, x129003 => if x33 = true then (some false) else (vivariumref11_Alike.l0 k 0 x128000 x128001 x128002 x128003 x129000 x129001 x129002 x129003)
def vivariumref11_Alike.l0 : Nat → Int → Int → Int → List (S49) → Int → Int → Int → List (S49) → Int → Option (Bool)
  | 0, _, _, _, _, _, _, _, _, _ => none
  | k + 1, x5, x128000, x128001, x128002, x128003, x129000, x129001, x129002, x129003 => if x5 < (x128002.length : Int) then (if 0 ≤ x5 then (if x5 < (x129002.length : Int) then (if ((rd_T49 x128002 x5).f0) = ((rd_T49 x129002 x5).f0) then ((vivariumref11_ints.f k ((rd_T49 x128002 x5).f1) ((rd_T49 x129002 x5).f1)).bind fun t133 => (if t133 = true then (vivariumref11_Alike.l0 k (wrap64 (x5 + 1)) x128000 x128001 x128002 x128003 x129000 x129001 x129002 x129003) else (some false))) else (some false)) else (none)) else (none)) else (some true)
end
def vivariumref11_Alike.f (k : Nat) (a0_0 : Int) (a0_1 : Int) (l0_2 : List (S49)) (a0_3 : Int) (a1_0 : Int) (a1_1 : Int) (l1_2 : List (S49)) (a1_3 : Int) : Option (Bool) := if a0_0 = a1_0 then (if a0_1 = a1_1 then (if a0_3 = a1_3 then (vivariumref11_Alike.j0 k ((l0_2.length : Int) != (l1_2.length : Int)) a0_0 a0_1 l0_2 a0_3 a1_0 a1_1 l1_2 a1_3) else (vivariumref11_Alike.j0 k true a0_0 a0_1 l0_2 a0_3 a1_0 a1_1 l1_2 a1_3)) else (vivariumref11_Alike.j0 k true a0_0 a0_1 l0_2 a0_3 a1_0 a1_1 l1_2 a1_3)) else (vivariumref11_Alike.j0 k true a0_0 a0_1 l0_2 a0_3 a1_0 a1_1 l1_2 a1_3)
theorem vivariumref11_Alike.mono_l : ∀ k, (∀ y0 y1 y2 y3 y4 y5 y6 y7 y8, LeO (vivariumref11_Alike.j0 k y0 y1 y2 y3 y4 y5 y6 y7 y8) (vivariumref11_Alike.j0 (k + 1) y0 y1 y2 y3 y4 y5 y6 y7 y8)) ∧ (∀ y0 y1 y2 y3 y4 y5 y6 y7 y8, LeO (vivariumref11_Alike.l0 k y0 y1 y2 y3 y4 y5 y6 y7 y8) (vivariumref11_Alike.l0 (k + 1) y0 y1 y2 y3 y4 y5 y6 y7 y8))
  | 0 => ⟨fun _ _ _ _ _ _ _ _ _ r h => by simp [vivariumref11_Alike.j0] at h, fun _ _ _ _ _ _ _ _ _ r h => by simp [vivariumref11_Alike.l0] at h⟩
  | k + 1 => by
    obtain ⟨ih0, ih1⟩ := vivariumref11_Alike.mono_l k
    refine ⟨?_, ?_⟩
    · intro y0 y1 y2 y3 y4 y5 y6 y7 y8
      unfold vivariumref11_Alike.j0
      repeat' first
      | (with_reducible exact ih0 _ _ _ _ _ _ _ _ _)
      | (with_reducible exact ih1 _ _ _ _ _ _ _ _ _)
      | (with_reducible exact vivariumref11_ints.mono _ _ _)
      | (with_reducible exact LeO.refl _)
      | (with_reducible exact LeO.none _)
      | (with_reducible refine LeO.ite ?_ ?_)
      | (with_reducible refine LeO.bind ?_ (fun _ => ?_))
      | exact ih0 _ _ _ _ _ _ _ _ _
      | exact ih1 _ _ _ _ _ _ _ _ _
      | exact vivariumref11_ints.mono _ _ _
      | exact LeO.none _
      | refine LeO.ite ?_ ?_
      | refine LeO.bind ?_ (fun _ => ?_)
    · intro y0 y1 y2 y3 y4 y5 y6 y7 y8
      unfold vivariumref11_Alike.l0
      repeat' first
      | (with_reducible exact ih0 _ _ _ _ _ _ _ _ _)
      | (with_reducible exact ih1 _ _ _ _ _ _ _ _ _)
      | (with_reducible exact vivariumref11_ints.mono _ _ _)
      | (with_reducible exact LeO.refl _)
      | (with_reducible exact LeO.none _)
      | (with_reducible refine LeO.ite ?_ ?_)
      | (with_reducible refine LeO.bind ?_ (fun _ => ?_))
      | exact ih0 _ _ _ _ _ _ _ _ _
      | exact ih1 _ _ _ _ _ _ _ _ _
      | exact vivariumref11_ints.mono _ _ _
      | exact LeO.none _
      | refine LeO.ite ?_ ?_
      | refine LeO.bind ?_ (fun _ => ?_)
set_option maxHeartbeats 8000000 in
set_option maxRecDepth 100000 in
theorem vivariumref11_Alike.calls (k : Nat) (a0_0 : Int) (a0_1 : Int) (A0_2 : Option Addr) (c0_2 : Nat) (l0_2 : List (S49)) (a0_3 : Int) (a1_0 : Int) (a1_1 : Int) (A1_2 : Option Addr) (c1_2 : Nat) (l1_2 : List (S49)) (a1_3 : Int) (r : Bool) (w : World) (hr0_2 : Kd.C k49 w A0_2 l0_2.length l0_2) (hc0_2 : l0_2.length ≤ c0_2) (hr1_2 : Kd.C k49 w A1_2 l1_2.length l1_2) (hc1_2 : l1_2.length ≤ c1_2) (h : vivariumref11_Alike.f k a0_0 a0_1 l0_2 a0_3 a1_0 a1_1 l1_2 a1_3 = some r) :
    Calls Tryd.prog 28 #[.agg #[.int .i64 a0_0, .int .i64 a0_1, .slice A0_2 l0_2.length c0_2, .int .i64 a0_3], .agg #[.int .i64 a1_0, .int .i64 a1_1, .slice A1_2 l1_2.length c1_2, .int .i64 a1_3]] w fun e w' => e = .returned (.bool r) ∧ Below w.heap.size w w' := by
  have hu24 := Tryd.underlying24
  have HR0_2 := Aside0.mk hr0_2
  have HC0_2 := Aside0.mk hc0_2
  clear hr0_2 hc0_2
  have HR1_2 := Aside0.mk hr1_2
  have HC1_2 := Aside0.mk hc1_2
  clear hr1_2 hc1_2
  have HB := Aside0.mk (Below.refl w.heap.size w)
  have H : (if a0_0 = a1_0 then (if a0_1 = a1_1 then (if a0_3 = a1_3 then (vivariumref11_Alike.j0 k ((l0_2.length : Int) != (l1_2.length : Int)) a0_0 a0_1 l0_2 a0_3 a1_0 a1_1 l1_2 a1_3) else (vivariumref11_Alike.j0 k true a0_0 a0_1 l0_2 a0_3 a1_0 a1_1 l1_2 a1_3)) else (vivariumref11_Alike.j0 k true a0_0 a0_1 l0_2 a0_3 a1_0 a1_1 l1_2 a1_3)) else (vivariumref11_Alike.j0 k true a0_0 a0_1 l0_2 a0_3 a1_0 a1_1 l1_2 a1_3)) = some r := h
  clear h
  have HC3 := Aside0.mk H
  clear H
  go_enter Tryd.func28, Tryd.ntmps28
  go_upto_region 1 with (first | ((with_reducible refine gate_dst (N := 2) rfl ?_); (try (refine gate_guard (by rfl) ?_; dsimp only)); refine box_event ?hg (N := 2) ?hd (cs := #[.int .i64 a0_0, .int .i64 a0_1, .slice A0_2 l0_2.length c0_2, .int .i64 a0_3]) (t := 24) ?hr ?_; (case hd => rfl); (case hg => rfl); (case hr => first | (go_simp; done) | (go_simp; rfl)); intro gb127 hg w4 hbox hb; have n0_ := Aside0.mk (below_step (by repeat (first | (with_reducible first | exact HB.out | apply below_alloc | apply pw_below_drewN | apply below_drew1) | exact HB.out)) hb); have n1_ := Aside0.mk (hbox); have n2_ := Aside0.mk ((by rw [hg]; exact (below_size (by repeat (first | (with_reducible first | exact HB.out | apply below_alloc | apply pw_below_drewN | apply below_drew1) | exact HB.out))) : w.heap.size ≤ gb127)); have n3_ := Aside0.mk ((by rw [hg]; exact (below_size (by repeat (first | (with_reducible first | exact HB.out | apply below_alloc | apply pw_below_drewN | apply below_drew1) | exact HB.out))) : w.heap.size ≤ gb127)); clear HB; have HB := n0_; have BK127 := n1_; have GW127 := n2_; have GE127 := n3_; clear n0_ n1_ n2_ n3_; clear hb hbox hg) | ((with_reducible refine gate_dst (N := 3) rfl ?_); (try (refine gate_guard (by rfl) ?_; dsimp only)); refine box_event ?hg (N := 3) ?hd (cs := #[.int .i64 a1_0, .int .i64 a1_1, .slice A1_2 l1_2.length c1_2, .int .i64 a1_3]) (t := 24) ?hr ?_; (case hd => rfl); (case hg => rfl); (case hr => first | (go_simp; done) | (go_simp; rfl)); intro gb128 hg w5 hbox hb; have n0_ := Aside0.mk (blk_below (g := gb127) (o := .cells #[.int .i64 a0_0, .int .i64 a0_1, .slice A0_2 l0_2.length c0_2, .int .i64 a0_3] 24 (0, 0)) (by (with_reducible repeat (first | refine blk_drewN ?_ _ | refine blk_drew ?_ | refine blk_alloc ?_ _)); exact BK127.out) hb); have n1_ := Aside0.mk (below_step (by repeat (first | (with_reducible first | exact HB.out | apply below_alloc | apply pw_below_drewN | apply below_drew1 | refine below_set ?_ GE127.out) | exact HB.out)) hb); have n2_ := Aside0.mk (hbox); have n3_ := Aside0.mk ((by rw [hg]; exact (below_size (by repeat (first | (with_reducible first | exact HB.out | apply below_alloc | apply pw_below_drewN | apply below_drew1 | refine below_set ?_ GE127.out) | exact HB.out))) : w.heap.size ≤ gb128)); have n4_ := Aside0.mk ((by rw [hg]; exact (below_size (by repeat (first | (with_reducible first | exact HB.out | apply below_alloc | apply pw_below_drewN | apply below_drew1 | refine below_set ?_ GE127.out) | exact HB.out))) : w.heap.size ≤ gb128)); have n5_ := Aside0.mk ((by rw [hg]; exact Nat.ne_of_lt (blk_lt (g := gb127) (o := .cells #[.int .i64 a0_0, .int .i64 a0_1, .slice A0_2 l0_2.length c0_2, .int .i64 a0_3] 24 (0, 0)) (by (with_reducible repeat (first | refine blk_drewN ?_ _ | refine blk_drew ?_ | refine blk_alloc ?_ _)); exact BK127.out)) : gb127 ≠ gb128)); have n6_ := Aside0.mk ((by rw [hg]; exact Nat.ne_of_gt (blk_lt (g := gb127) (o := .cells #[.int .i64 a0_0, .int .i64 a0_1, .slice A0_2 l0_2.length c0_2, .int .i64 a0_3] 24 (0, 0)) (by (with_reducible repeat (first | refine blk_drewN ?_ _ | refine blk_drew ?_ | refine blk_alloc ?_ _)); exact BK127.out)) : gb128 ≠ gb127)); clear BK127; clear HB; have BK127 := n0_; have HB := n1_; have BK128 := n2_; have GW128 := n3_; have GE128 := n4_; have NB127_128 := n5_; have NB128_127 := n6_; clear n0_ n1_ n2_ n3_ n4_ n5_ n6_; clear hb hbox hg))
  repeat (go_quiet (first | ((with_reducible refine gate_dst (N := 2) rfl ?_); (try (refine gate_guard (by rfl) ?_; dsimp only)); refine box_event ?hg (N := 2) ?hd (cs := #[.int .i64 a0_0, .int .i64 a0_1, .slice A0_2 l0_2.length c0_2, .int .i64 a0_3]) (t := 24) ?hr ?_; (case hd => rfl); (case hg => rfl); (case hr => first | (go_simp; done) | (go_simp; rfl)); intro gb127 hg w4 hbox hb; have n0_ := Aside0.mk (below_step (by repeat (first | (with_reducible first | exact HB.out | apply below_alloc | apply pw_below_drewN | apply below_drew1) | exact HB.out)) hb); have n1_ := Aside0.mk (hbox); have n2_ := Aside0.mk ((by rw [hg]; exact (below_size (by repeat (first | (with_reducible first | exact HB.out | apply below_alloc | apply pw_below_drewN | apply below_drew1) | exact HB.out))) : w.heap.size ≤ gb127)); have n3_ := Aside0.mk ((by rw [hg]; exact (below_size (by repeat (first | (with_reducible first | exact HB.out | apply below_alloc | apply pw_below_drewN | apply below_drew1) | exact HB.out))) : w.heap.size ≤ gb127)); clear HB; have HB := n0_; have BK127 := n1_; have GW127 := n2_; have GE127 := n3_; clear n0_ n1_ n2_ n3_; clear hb hbox hg) | ((with_reducible refine gate_dst (N := 3) rfl ?_); (try (refine gate_guard (by rfl) ?_; dsimp only)); refine box_event ?hg (N := 3) ?hd (cs := #[.int .i64 a1_0, .int .i64 a1_1, .slice A1_2 l1_2.length c1_2, .int .i64 a1_3]) (t := 24) ?hr ?_; (case hd => rfl); (case hg => rfl); (case hr => first | (go_simp; done) | (go_simp; rfl)); intro gb128 hg w5 hbox hb; have n0_ := Aside0.mk (blk_below (g := gb127) (o := .cells #[.int .i64 a0_0, .int .i64 a0_1, .slice A0_2 l0_2.length c0_2, .int .i64 a0_3] 24 (0, 0)) (by (with_reducible repeat (first | refine blk_drewN ?_ _ | refine blk_drew ?_ | refine blk_alloc ?_ _)); exact BK127.out) hb); have n1_ := Aside0.mk (below_step (by repeat (first | (with_reducible first | exact HB.out | apply below_alloc | apply pw_below_drewN | apply below_drew1 | refine below_set ?_ GE127.out) | exact HB.out)) hb); have n2_ := Aside0.mk (hbox); have n3_ := Aside0.mk ((by rw [hg]; exact (below_size (by repeat (first | (with_reducible first | exact HB.out | apply below_alloc | apply pw_below_drewN | apply below_drew1 | refine below_set ?_ GE127.out) | exact HB.out))) : w.heap.size ≤ gb128)); have n4_ := Aside0.mk ((by rw [hg]; exact (below_size (by repeat (first | (with_reducible first | exact HB.out | apply below_alloc | apply pw_below_drewN | apply below_drew1 | refine below_set ?_ GE127.out) | exact HB.out))) : w.heap.size ≤ gb128)); have n5_ := Aside0.mk ((by rw [hg]; exact Nat.ne_of_lt (blk_lt (g := gb127) (o := .cells #[.int .i64 a0_0, .int .i64 a0_1, .slice A0_2 l0_2.length c0_2, .int .i64 a0_3] 24 (0, 0)) (by (with_reducible repeat (first | refine blk_drewN ?_ _ | refine blk_drew ?_ | refine blk_alloc ?_ _)); exact BK127.out)) : gb127 ≠ gb128)); have n6_ := Aside0.mk ((by rw [hg]; exact Nat.ne_of_gt (blk_lt (g := gb127) (o := .cells #[.int .i64 a0_0, .int .i64 a0_1, .slice A0_2 l0_2.length c0_2, .int .i64 a0_3] 24 (0, 0)) (by (with_reducible repeat (first | refine blk_drewN ?_ _ | refine blk_drew ?_ | refine blk_alloc ?_ _)); exact BK127.out)) : gb128 ≠ gb127)); clear BK127; clear HB; have BK127 := n0_; have HB := n1_; have BK128 := n2_; have GW128 := n3_; have GE128 := n4_; have NB127_128 := n5_; have NB128_127 := n6_; clear n0_ n1_ n2_ n3_ n4_ n5_ n6_; clear hb hbox hg)); go_upto_region 1 with (first | ((with_reducible refine gate_dst (N := 2) rfl ?_); (try (refine gate_guard (by rfl) ?_; dsimp only)); refine box_event ?hg (N := 2) ?hd (cs := #[.int .i64 a0_0, .int .i64 a0_1, .slice A0_2 l0_2.length c0_2, .int .i64 a0_3]) (t := 24) ?hr ?_; (case hd => rfl); (case hg => rfl); (case hr => first | (go_simp; done) | (go_simp; rfl)); intro gb127 hg w4 hbox hb; have n0_ := Aside0.mk (below_step (by repeat (first | (with_reducible first | exact HB.out | apply below_alloc | apply pw_below_drewN | apply below_drew1) | exact HB.out)) hb); have n1_ := Aside0.mk (hbox); have n2_ := Aside0.mk ((by rw [hg]; exact (below_size (by repeat (first | (with_reducible first | exact HB.out | apply below_alloc | apply pw_below_drewN | apply below_drew1) | exact HB.out))) : w.heap.size ≤ gb127)); have n3_ := Aside0.mk ((by rw [hg]; exact (below_size (by repeat (first | (with_reducible first | exact HB.out | apply below_alloc | apply pw_below_drewN | apply below_drew1) | exact HB.out))) : w.heap.size ≤ gb127)); clear HB; have HB := n0_; have BK127 := n1_; have GW127 := n2_; have GE127 := n3_; clear n0_ n1_ n2_ n3_; clear hb hbox hg) | ((with_reducible refine gate_dst (N := 3) rfl ?_); (try (refine gate_guard (by rfl) ?_; dsimp only)); refine box_event ?hg (N := 3) ?hd (cs := #[.int .i64 a1_0, .int .i64 a1_1, .slice A1_2 l1_2.length c1_2, .int .i64 a1_3]) (t := 24) ?hr ?_; (case hd => rfl); (case hg => rfl); (case hr => first | (go_simp; done) | (go_simp; rfl)); intro gb128 hg w5 hbox hb; have n0_ := Aside0.mk (blk_below (g := gb127) (o := .cells #[.int .i64 a0_0, .int .i64 a0_1, .slice A0_2 l0_2.length c0_2, .int .i64 a0_3] 24 (0, 0)) (by (with_reducible repeat (first | refine blk_drewN ?_ _ | refine blk_drew ?_ | refine blk_alloc ?_ _)); exact BK127.out) hb); have n1_ := Aside0.mk (below_step (by repeat (first | (with_reducible first | exact HB.out | apply below_alloc | apply pw_below_drewN | apply below_drew1 | refine below_set ?_ GE127.out) | exact HB.out)) hb); have n2_ := Aside0.mk (hbox); have n3_ := Aside0.mk ((by rw [hg]; exact (below_size (by repeat (first | (with_reducible first | exact HB.out | apply below_alloc | apply pw_below_drewN | apply below_drew1 | refine below_set ?_ GE127.out) | exact HB.out))) : w.heap.size ≤ gb128)); have n4_ := Aside0.mk ((by rw [hg]; exact (below_size (by repeat (first | (with_reducible first | exact HB.out | apply below_alloc | apply pw_below_drewN | apply below_drew1 | refine below_set ?_ GE127.out) | exact HB.out))) : w.heap.size ≤ gb128)); have n5_ := Aside0.mk ((by rw [hg]; exact Nat.ne_of_lt (blk_lt (g := gb127) (o := .cells #[.int .i64 a0_0, .int .i64 a0_1, .slice A0_2 l0_2.length c0_2, .int .i64 a0_3] 24 (0, 0)) (by (with_reducible repeat (first | refine blk_drewN ?_ _ | refine blk_drew ?_ | refine blk_alloc ?_ _)); exact BK127.out)) : gb127 ≠ gb128)); have n6_ := Aside0.mk ((by rw [hg]; exact Nat.ne_of_gt (blk_lt (g := gb127) (o := .cells #[.int .i64 a0_0, .int .i64 a0_1, .slice A0_2 l0_2.length c0_2, .int .i64 a0_3] 24 (0, 0)) (by (with_reducible repeat (first | refine blk_drewN ?_ _ | refine blk_drew ?_ | refine blk_alloc ?_ _)); exact BK127.out)) : gb128 ≠ gb127)); clear BK127; clear HB; have BK127 := n0_; have HB := n1_; have BK128 := n2_; have GW128 := n3_; have GE128 := n4_; have NB127_128 := n5_; have NB128_127 := n6_; clear n0_ n1_ n2_ n3_ n4_ n5_ n6_; clear hb hbox hg)))
  (try simp only [Act.put, List.setIfInBounds_toArray, List.set_cons_zero, List.set_cons_succ])
  go_cut [33] (fun v33 wc => ∃ (kq : Nat) (x33_2 : Bool), v33 = .bool x33_2 ∧ Aside0 (vivariumref11_Alike.j0 kq x33_2 a0_0 a0_1 l0_2 a0_3 a1_0 a1_1 l1_2 a1_3 = some r) ∧ Aside0 (kq ≤ k) ∧ Aside0 (wc.heap[gb127]? = some (.cells #[.int .i64 a0_0, .int .i64 a0_1, (.slice A0_2 l0_2.length c0_2), .int .i64 a0_3] 24 (0, 0))) ∧ Aside0 (wc.heap[gb128]? = some (.cells #[.int .i64 a1_0, .int .i64 a1_1, (.slice A1_2 l1_2.length c1_2), .int .i64 a1_3] 24 (0, 0))) ∧ Aside0 (Below w.heap.size w wc))
  case first =>
    have H := HC3.out
    clear HC3
    by_cases c6 : a0_0 = a1_0
    · rw [if_pos c6] at H
      have c6b0 : (a0_0 == a1_0) = true := beq_iff_eq.mpr c6
      have c6b1 : (a0_0 != a1_0) = false := bne_eq_false_iff_eq.mpr c6
      clear c6
      (first | rw [c6b0] | (simp only [i64_w, i32_w]; rw [c6b0]) | skip)
      by_cases c7 : a0_1 = a1_1
      · rw [if_pos c7] at H
        have c7b0 : (a0_1 == a1_1) = true := beq_iff_eq.mpr c7
        have c7b1 : (a0_1 != a1_1) = false := bne_eq_false_iff_eq.mpr c7
        clear c7
        by_cases c8 : a0_3 = a1_3
        · rw [if_pos c8] at H
          have c8b0 : (a0_3 == a1_3) = true := beq_iff_eq.mpr c8
          have c8b1 : (a0_3 != a1_3) = false := bne_eq_false_iff_eq.mpr c8
          clear c8
          have H' := Aside0.mk H
          clear H
          have hnb9 := NB127_128.out
          have hnc9 := NB128_127.out
          have hcz10_0 : w5.cell? ⟨gb127, 0, none⟩ = some (.int .i64 a0_0) := (blk_cell BK127.out 0).trans rfl
          have hcz10_1 : w5.cell? ⟨gb127, 1, none⟩ = some (.int .i64 a0_1) := (blk_cell BK127.out 1).trans rfl
          have hcz10_2 : w5.cell? ⟨gb127, 2, none⟩ = some (.slice A0_2 l0_2.length c0_2) := (blk_cell BK127.out 2).trans rfl
          have hcz10_3 : w5.cell? ⟨gb127, 3, none⟩ = some (.int .i64 a0_3) := (blk_cell BK127.out 3).trans rfl
          have hfz10_0 := blk_frozen BK127.out 0
          have hfz10_1 := blk_frozen BK127.out 1
          have hfz10_2 := blk_frozen BK127.out 2
          have hfz10_3 := blk_frozen BK127.out 3
          have hcz11_0 : w5.cell? ⟨gb128, 0, none⟩ = some (.int .i64 a1_0) := (blk_cell BK128.out 0).trans rfl
          have hcz11_1 : w5.cell? ⟨gb128, 1, none⟩ = some (.int .i64 a1_1) := (blk_cell BK128.out 1).trans rfl
          have hcz11_2 : w5.cell? ⟨gb128, 2, none⟩ = some (.slice A1_2 l1_2.length c1_2) := (blk_cell BK128.out 2).trans rfl
          have hcz11_3 : w5.cell? ⟨gb128, 3, none⟩ = some (.int .i64 a1_3) := (blk_cell BK128.out 3).trans rfl
          have hfz11_0 := blk_frozen BK128.out 0
          have hfz11_1 := blk_frozen BK128.out 1
          have hfz11_2 := blk_frozen BK128.out 2
          have hfz11_3 := blk_frozen BK128.out 3
          go_wp2
          repeat (go_quiet (fail); try go_wp2)
          go_meet
          case rel => exact ⟨_, (((l0_2.length : Int) != (l1_2.length : Int))), (by first | rfl | (simp; done) | (simp [*]; done) | (simp [wrap64]; done)), H', ⟨by first | omega | exact Nat.le_refl _⟩, ⟨by (with_reducible repeat (first | refine blk_drewN ?_ _ | refine blk_drew ?_ | refine blk_alloc ?_ _)); exact BK127.out⟩, ⟨by (with_reducible repeat (first | refine blk_drewN ?_ _ | refine blk_drew ?_ | refine blk_alloc ?_ _)); exact BK128.out⟩, ⟨by repeat (first | (with_reducible first | exact HB.out | apply below_alloc | apply pw_below_drewN | apply below_drew1 | refine below_set ?_ GE127.out | refine below_set ?_ GE128.out) | exact HB.out)⟩⟩
        · rw [if_neg c8] at H
          have c8b0 : (a0_3 == a1_3) = false := beq_eq_false_iff_ne.mpr c8
          have c8b1 : (a0_3 != a1_3) = true := bne_iff_ne.mpr c8
          have H' := Aside0.mk H
          clear H
          have hnb12 := NB127_128.out
          have hnc12 := NB128_127.out
          have hcz13_0 : w5.cell? ⟨gb127, 0, none⟩ = some (.int .i64 a0_0) := (blk_cell BK127.out 0).trans rfl
          have hcz13_1 : w5.cell? ⟨gb127, 1, none⟩ = some (.int .i64 a0_1) := (blk_cell BK127.out 1).trans rfl
          have hcz13_2 : w5.cell? ⟨gb127, 2, none⟩ = some (.slice A0_2 l0_2.length c0_2) := (blk_cell BK127.out 2).trans rfl
          have hcz13_3 : w5.cell? ⟨gb127, 3, none⟩ = some (.int .i64 a0_3) := (blk_cell BK127.out 3).trans rfl
          have hfz13_0 := blk_frozen BK127.out 0
          have hfz13_1 := blk_frozen BK127.out 1
          have hfz13_2 := blk_frozen BK127.out 2
          have hfz13_3 := blk_frozen BK127.out 3
          have hcz14_0 : w5.cell? ⟨gb128, 0, none⟩ = some (.int .i64 a1_0) := (blk_cell BK128.out 0).trans rfl
          have hcz14_1 : w5.cell? ⟨gb128, 1, none⟩ = some (.int .i64 a1_1) := (blk_cell BK128.out 1).trans rfl
          have hcz14_2 : w5.cell? ⟨gb128, 2, none⟩ = some (.slice A1_2 l1_2.length c1_2) := (blk_cell BK128.out 2).trans rfl
          have hcz14_3 : w5.cell? ⟨gb128, 3, none⟩ = some (.int .i64 a1_3) := (blk_cell BK128.out 3).trans rfl
          have hfz14_0 := blk_frozen BK128.out 0
          have hfz14_1 := blk_frozen BK128.out 1
          have hfz14_2 := blk_frozen BK128.out 2
          have hfz14_3 := blk_frozen BK128.out 3
          go_wp2
          repeat (go_quiet (fail); try go_wp2)
          go_meet
          case rel => exact ⟨_, (true), (by first | rfl | (simp; done) | (simp [*]; done) | (simp [wrap64]; done)), H', ⟨by first | omega | exact Nat.le_refl _⟩, ⟨by (with_reducible repeat (first | refine blk_drewN ?_ _ | refine blk_drew ?_ | refine blk_alloc ?_ _)); exact BK127.out⟩, ⟨by (with_reducible repeat (first | refine blk_drewN ?_ _ | refine blk_drew ?_ | refine blk_alloc ?_ _)); exact BK128.out⟩, ⟨by repeat (first | (with_reducible first | exact HB.out | apply below_alloc | apply pw_below_drewN | apply below_drew1 | refine below_set ?_ GE127.out | refine below_set ?_ GE128.out) | exact HB.out)⟩⟩
      · rw [if_neg c7] at H
        have c7b0 : (a0_1 == a1_1) = false := beq_eq_false_iff_ne.mpr c7
        have c7b1 : (a0_1 != a1_1) = true := bne_iff_ne.mpr c7
        have H' := Aside0.mk H
        clear H
        have hnb15 := NB127_128.out
        have hnc15 := NB128_127.out
        have hcz16_0 : w5.cell? ⟨gb127, 0, none⟩ = some (.int .i64 a0_0) := (blk_cell BK127.out 0).trans rfl
        have hcz16_1 : w5.cell? ⟨gb127, 1, none⟩ = some (.int .i64 a0_1) := (blk_cell BK127.out 1).trans rfl
        have hcz16_2 : w5.cell? ⟨gb127, 2, none⟩ = some (.slice A0_2 l0_2.length c0_2) := (blk_cell BK127.out 2).trans rfl
        have hcz16_3 : w5.cell? ⟨gb127, 3, none⟩ = some (.int .i64 a0_3) := (blk_cell BK127.out 3).trans rfl
        have hfz16_0 := blk_frozen BK127.out 0
        have hfz16_1 := blk_frozen BK127.out 1
        have hfz16_2 := blk_frozen BK127.out 2
        have hfz16_3 := blk_frozen BK127.out 3
        have hcz17_0 : w5.cell? ⟨gb128, 0, none⟩ = some (.int .i64 a1_0) := (blk_cell BK128.out 0).trans rfl
        have hcz17_1 : w5.cell? ⟨gb128, 1, none⟩ = some (.int .i64 a1_1) := (blk_cell BK128.out 1).trans rfl
        have hcz17_2 : w5.cell? ⟨gb128, 2, none⟩ = some (.slice A1_2 l1_2.length c1_2) := (blk_cell BK128.out 2).trans rfl
        have hcz17_3 : w5.cell? ⟨gb128, 3, none⟩ = some (.int .i64 a1_3) := (blk_cell BK128.out 3).trans rfl
        have hfz17_0 := blk_frozen BK128.out 0
        have hfz17_1 := blk_frozen BK128.out 1
        have hfz17_2 := blk_frozen BK128.out 2
        have hfz17_3 := blk_frozen BK128.out 3
        go_wp2
        repeat (go_quiet (fail); try go_wp2)
        go_meet
        case rel => exact ⟨_, (true), (by first | rfl | (simp; done) | (simp [*]; done) | (simp [wrap64]; done)), H', ⟨by first | omega | exact Nat.le_refl _⟩, ⟨by (with_reducible repeat (first | refine blk_drewN ?_ _ | refine blk_drew ?_ | refine blk_alloc ?_ _)); exact BK127.out⟩, ⟨by (with_reducible repeat (first | refine blk_drewN ?_ _ | refine blk_drew ?_ | refine blk_alloc ?_ _)); exact BK128.out⟩, ⟨by repeat (first | (with_reducible first | exact HB.out | apply below_alloc | apply pw_below_drewN | apply below_drew1 | refine below_set ?_ GE127.out | refine below_set ?_ GE128.out) | exact HB.out)⟩⟩
    · rw [if_neg c6] at H
      have c6b0 : (a0_0 == a1_0) = false := beq_eq_false_iff_ne.mpr c6
      have c6b1 : (a0_0 != a1_0) = true := bne_iff_ne.mpr c6
      (first | rw [c6b0] | (simp only [i64_w, i32_w]; rw [c6b0]) | skip)
      have H' := Aside0.mk H
      clear H
      have hnb18 := NB127_128.out
      have hnc18 := NB128_127.out
      have hcz19_0 : w5.cell? ⟨gb127, 0, none⟩ = some (.int .i64 a0_0) := (blk_cell BK127.out 0).trans rfl
      have hcz19_1 : w5.cell? ⟨gb127, 1, none⟩ = some (.int .i64 a0_1) := (blk_cell BK127.out 1).trans rfl
      have hcz19_2 : w5.cell? ⟨gb127, 2, none⟩ = some (.slice A0_2 l0_2.length c0_2) := (blk_cell BK127.out 2).trans rfl
      have hcz19_3 : w5.cell? ⟨gb127, 3, none⟩ = some (.int .i64 a0_3) := (blk_cell BK127.out 3).trans rfl
      have hfz19_0 := blk_frozen BK127.out 0
      have hfz19_1 := blk_frozen BK127.out 1
      have hfz19_2 := blk_frozen BK127.out 2
      have hfz19_3 := blk_frozen BK127.out 3
      have hcz20_0 : w5.cell? ⟨gb128, 0, none⟩ = some (.int .i64 a1_0) := (blk_cell BK128.out 0).trans rfl
      have hcz20_1 : w5.cell? ⟨gb128, 1, none⟩ = some (.int .i64 a1_1) := (blk_cell BK128.out 1).trans rfl
      have hcz20_2 : w5.cell? ⟨gb128, 2, none⟩ = some (.slice A1_2 l1_2.length c1_2) := (blk_cell BK128.out 2).trans rfl
      have hcz20_3 : w5.cell? ⟨gb128, 3, none⟩ = some (.int .i64 a1_3) := (blk_cell BK128.out 3).trans rfl
      have hfz20_0 := blk_frozen BK128.out 0
      have hfz20_1 := blk_frozen BK128.out 1
      have hfz20_2 := blk_frozen BK128.out 2
      have hfz20_3 := blk_frozen BK128.out 3
      go_wp2
      repeat (go_quiet (fail); try go_wp2)
      go_meet
      case rel => exact ⟨_, (true), (by first | rfl | (simp; done) | (simp [*]; done) | (simp [wrap64]; done)), H', ⟨by first | omega | exact Nat.le_refl _⟩, ⟨by (with_reducible repeat (first | refine blk_drewN ?_ _ | refine blk_drew ?_ | refine blk_alloc ?_ _)); exact BK127.out⟩, ⟨by (with_reducible repeat (first | refine blk_drewN ?_ _ | refine blk_drew ?_ | refine blk_alloc ?_ _)); exact BK128.out⟩, ⟨by repeat (first | (with_reducible first | exact HB.out | apply below_alloc | apply pw_below_drewN | apply below_drew1 | refine below_set ?_ GE127.out | refine below_set ?_ GE128.out) | exact HB.out)⟩⟩
  case rest =>
    clear HC3
    try clear c1
    try clear c2
    try clear p2
    try clear c6
    try clear c6b0
    try clear c6b1
    try clear c7
    try clear c7b0
    try clear c7b1
    try clear c8
    try clear c8b0
    try clear c8b1
    try clear c9
    try clear c12
    try clear c15
    try clear c18
    try clear hcz10_0
    try clear hcz10_1
    try clear hcz10_2
    try clear hcz10_3
    try clear hcz11_0
    try clear hcz11_1
    try clear hcz11_2
    try clear hcz11_3
    try clear hcz13_0
    try clear hcz13_1
    try clear hcz13_2
    try clear hcz13_3
    try clear hcz14_0
    try clear hcz14_1
    try clear hcz14_2
    try clear hcz14_3
    try clear hcz16_0
    try clear hcz16_1
    try clear hcz16_2
    try clear hcz16_3
    try clear hcz17_0
    try clear hcz17_1
    try clear hcz17_2
    try clear hcz17_3
    try clear hcz19_0
    try clear hcz19_1
    try clear hcz19_2
    try clear hcz19_3
    try clear hcz20_0
    try clear hcz20_1
    try clear hcz20_2
    try clear hcz20_3
    try clear hfz10_0
    try clear hfz10_1
    try clear hfz10_2
    try clear hfz10_3
    try clear hfz11_0
    try clear hfz11_1
    try clear hfz11_2
    try clear hfz11_3
    try clear hfz13_0
    try clear hfz13_1
    try clear hfz13_2
    try clear hfz13_3
    try clear hfz14_0
    try clear hfz14_1
    try clear hfz14_2
    try clear hfz14_3
    try clear hfz16_0
    try clear hfz16_1
    try clear hfz16_2
    try clear hfz16_3
    try clear hfz17_0
    try clear hfz17_1
    try clear hfz17_2
    try clear hfz17_3
    try clear hfz19_0
    try clear hfz19_1
    try clear hfz19_2
    try clear hfz19_3
    try clear hfz20_0
    try clear hfz20_1
    try clear hfz20_2
    try clear hfz20_3
    obtain ⟨kq, x33_2, rfl, HA, HJ2, BK127, BK128, HB⟩ := hcut
    cases kq with
    | zero => exact absurd HA.out (by simp [vivariumref11_Alike.j0])
    | succ kj2 =>
      have H := HA.out
      clear HA
      simp only [vivariumref11_Alike.j0] at H
      by_cases c21 : x33_2 = true
      · subst c21
        have H1 : (some false) = some r := by rw [if_pos rfl] at H; exact H
        clear H
        have H := H1
        clear H1
        obtain rfl := Option.some.inj H
        go_wp2
        repeat (go_quiet (fail); try go_wp2)
        go_ret
        exact ⟨by first | rfl | (simp [errW_none, errW_some] <;> rfl) | (simp [*, errW_none, errW_some] <;> rfl), by repeat (first | (with_reducible first | exact HB.out | apply below_alloc | apply pw_below_drewN | apply below_drew1 | refine below_set ?_ GE127.out | refine below_set ?_ GE128.out) | exact HB.out)⟩
      · replace c21 := Bool.eq_false_iff.mpr c21
        subst c21
        have H1 : (vivariumref11_Alike.l0 kj2 0 a0_0 a0_1 l0_2 a0_3 a1_0 a1_1 l1_2 a1_3) = some r := by rw [if_neg (show ¬ (false = true) by decide)] at H; exact H
        clear H
        have H := H1
        clear H1
        have H' := Aside0.mk H
        clear H
        go_wp2
        repeat (go_quiet (fail); try go_wp2)
        go_loopg [5] kj2 (fun kq v5 w' => ∃ (x5_2 : Int), v5 = .int .i64 x5_2 ∧ Aside0 (vivariumref11_Alike.l0 kq x5_2 a0_0 a0_1 l0_2 a0_3 a1_0 a1_1 l1_2 a1_3 = some r) ∧ Aside0 (kq ≤ kj2) ∧ Aside0 (w'.heap[gb127]? = some (.cells #[.int .i64 a0_0, .int .i64 a0_1, (.slice A0_2 l0_2.length c0_2), .int .i64 a0_3] 24 (0, 0))) ∧ Aside0 (w'.heap[gb128]? = some (.cells #[.int .i64 a1_0, .int .i64 a1_1, (.slice A1_2 l1_2.length c1_2), .int .i64 a1_3] 24 (0, 0))) ∧ Aside0 (Below w.heap.size w w'))
        case atStart => exact ⟨(0), (by first | rfl | (simp; done) | (simp [*]; done) | (simp [wrap64]; done)), H', ⟨Nat.le_refl _⟩, ⟨by (with_reducible repeat (first | refine blk_drewN ?_ _ | refine blk_drew ?_ | refine blk_alloc ?_ _)); exact BK127.out⟩, ⟨by (with_reducible repeat (first | refine blk_drewN ?_ _ | refine blk_drew ?_ | refine blk_alloc ?_ _)); exact BK128.out⟩, ⟨by repeat (first | (with_reducible first | exact HB.out | apply below_alloc | apply pw_below_drewN | apply below_drew1 | refine below_set ?_ GE127.out | refine below_set ?_ GE128.out) | exact HB.out)⟩⟩
        case round =>
          clear H'
          try clear c1
          try clear c2
          try clear p2
          try clear c6
          try clear c6b0
          try clear c6b1
          try clear c7
          try clear c7b0
          try clear c7b1
          try clear c8
          try clear c8b0
          try clear c8b1
          try clear c9
          try clear c12
          try clear c15
          try clear c18
          try clear c21
          try clear hcz10_0
          try clear hcz10_1
          try clear hcz10_2
          try clear hcz10_3
          try clear hcz11_0
          try clear hcz11_1
          try clear hcz11_2
          try clear hcz11_3
          try clear hcz13_0
          try clear hcz13_1
          try clear hcz13_2
          try clear hcz13_3
          try clear hcz14_0
          try clear hcz14_1
          try clear hcz14_2
          try clear hcz14_3
          try clear hcz16_0
          try clear hcz16_1
          try clear hcz16_2
          try clear hcz16_3
          try clear hcz17_0
          try clear hcz17_1
          try clear hcz17_2
          try clear hcz17_3
          try clear hcz19_0
          try clear hcz19_1
          try clear hcz19_2
          try clear hcz19_3
          try clear hcz20_0
          try clear hcz20_1
          try clear hcz20_2
          try clear hcz20_3
          try clear hfz10_0
          try clear hfz10_1
          try clear hfz10_2
          try clear hfz10_3
          try clear hfz11_0
          try clear hfz11_1
          try clear hfz11_2
          try clear hfz11_3
          try clear hfz13_0
          try clear hfz13_1
          try clear hfz13_2
          try clear hfz13_3
          try clear hfz14_0
          try clear hfz14_1
          try clear hfz14_2
          try clear hfz14_3
          try clear hfz16_0
          try clear hfz16_1
          try clear hfz16_2
          try clear hfz16_3
          try clear hfz17_0
          try clear hfz17_1
          try clear hfz17_2
          try clear hfz17_3
          try clear hfz19_0
          try clear hfz19_1
          try clear hfz19_2
          try clear hfz19_3
          try clear hfz20_0
          try clear hfz20_1
          try clear hfz20_2
          try clear hfz20_3
          try clear p2
          obtain ⟨x5_2, rfl, HA, HK2, BK127, BK128, HB⟩ := hrel
          cases gk with
          | zero => exact absurd HA.out (by simp [vivariumref11_Alike.l0])
          | succ k2 =>
            have H := HA.out
            clear HA
            simp only [vivariumref11_Alike.l0] at H
            by_cases c22 : x5_2 < (l0_2.length : Int)
            · rw [if_pos c22] at H
              have c22b0 : decide (x5_2 < (l0_2.length : Int)) = true := decide_eq_true c22
              clear c22
              by_cases c23 : 0 ≤ x5_2
              · rw [if_pos c23] at H
                have c23b0 : decide (0 ≤ x5_2) = true := decide_eq_true c23
                clear c23
                by_cases c24 : x5_2 < (l1_2.length : Int)
                · rw [if_pos c24] at H
                  have c24b0 : decide (x5_2 < (l1_2.length : Int)) = true := decide_eq_true c24
                  clear c24
                  by_cases c25 : ((rd_T49 l0_2 x5_2).f0) = ((rd_T49 l1_2 x5_2).f0)
                  · rw [if_pos c25] at H
                    have c25b0 : (((rd_T49 l0_2 x5_2).f0) == ((rd_T49 l1_2 x5_2).f0)) = true := beq_iff_eq.mpr c25
                    have c25b1 : (((rd_T49 l0_2 x5_2).f0) != ((rd_T49 l1_2 x5_2).f0)) = false := bne_eq_false_iff_eq.mpr c25
                    clear c25
                    replace H := Option.bind_eq_some_iff.mp H
                    obtain ⟨t133, A260, H⟩ := H
                    replace H : (if t133 = true then (vivariumref11_Alike.l0 k2 (wrap64 (x5_2 + 1)) a0_0 a0_1 l0_2 a0_3 a1_0 a1_1 l1_2 a1_3) else (some false)) = some r := H
                    have A26 := Aside0.mk A260
                    clear A260
                    by_cases c27 : t133 = true
                    · subst c27
                      have H1 : (vivariumref11_Alike.l0 k2 (wrap64 (x5_2 + 1)) a0_0 a0_1 l0_2 a0_3 a1_0 a1_1 l1_2 a1_3) = some r := by rw [if_pos rfl] at H; exact H
                      clear H
                      have H := H1
                      clear H1
                      have H' := Aside0.mk H
                      clear H
                      have hnb28 := NB127_128.out
                      have hnc28 := NB128_127.out
                      have hcz29_0 : wr.cell? ⟨gb127, 0, none⟩ = some (.int .i64 a0_0) := (blk_cell BK127.out 0).trans rfl
                      have hcz29_1 : wr.cell? ⟨gb127, 1, none⟩ = some (.int .i64 a0_1) := (blk_cell BK127.out 1).trans rfl
                      have hcz29_2 : wr.cell? ⟨gb127, 2, none⟩ = some (.slice A0_2 l0_2.length c0_2) := (blk_cell BK127.out 2).trans rfl
                      have hcz29_3 : wr.cell? ⟨gb127, 3, none⟩ = some (.int .i64 a0_3) := (blk_cell BK127.out 3).trans rfl
                      have hfz29_0 := blk_frozen BK127.out 0
                      have hfz29_1 := blk_frozen BK127.out 1
                      have hfz29_2 := blk_frozen BK127.out 2
                      have hfz29_3 := blk_frozen BK127.out 3
                      have p129 : 0 ≤ (x5_2 : Int) := of_decide_eq_true (by first | (with_reducible assumption) | assumption)
                      have q129 : x5_2 < (l0_2.length : Int) := of_decide_eq_true (by first | (with_reducible assumption) | assumption)
                      obtain ⟨ad129, A129_1, c129_1, e129, hx129_0, hx129_1, hl129_1, hi129_1⟩ := at_T49 HR0_2.out x5_2 p129 q129
                      cases e129
                      replace hx129_0 := (HB.out.cell (World.block_lt_of_cell? w _ hx129_0)).trans hx129_0
                      replace hx129_1 := (HB.out.cell (World.block_lt_of_cell? w _ hx129_1)).trans hx129_1
                      have HR129_1 := Aside0.mk hi129_1
                      have HC129_1 := Aside0.mk hl129_1
                      clear hi129_1 hl129_1
                      replace p129 := eq_true p129
                      replace q129 := eq_true q129
                      have hcz30_0 : wr.cell? ⟨gb128, 0, none⟩ = some (.int .i64 a1_0) := (blk_cell BK128.out 0).trans rfl
                      have hcz30_1 : wr.cell? ⟨gb128, 1, none⟩ = some (.int .i64 a1_1) := (blk_cell BK128.out 1).trans rfl
                      have hcz30_2 : wr.cell? ⟨gb128, 2, none⟩ = some (.slice A1_2 l1_2.length c1_2) := (blk_cell BK128.out 2).trans rfl
                      have hcz30_3 : wr.cell? ⟨gb128, 3, none⟩ = some (.int .i64 a1_3) := (blk_cell BK128.out 3).trans rfl
                      have hfz30_0 := blk_frozen BK128.out 0
                      have hfz30_1 := blk_frozen BK128.out 1
                      have hfz30_2 := blk_frozen BK128.out 2
                      have hfz30_3 := blk_frozen BK128.out 3
                      have p130 : 0 ≤ (x5_2 : Int) := of_decide_eq_true (by first | (with_reducible assumption) | assumption)
                      have q130 : x5_2 < (l1_2.length : Int) := of_decide_eq_true (by first | (with_reducible assumption) | assumption)
                      obtain ⟨ad130, A130_1, c130_1, e130, hx130_0, hx130_1, hl130_1, hi130_1⟩ := at_T49 HR1_2.out x5_2 p130 q130
                      cases e130
                      replace hx130_0 := (HB.out.cell (World.block_lt_of_cell? w _ hx130_0)).trans hx130_0
                      replace hx130_1 := (HB.out.cell (World.block_lt_of_cell? w _ hx130_1)).trans hx130_1
                      have HR130_1 := Aside0.mk hi130_1
                      have HC130_1 := Aside0.mk hl130_1
                      clear hi130_1 hl130_1
                      replace p130 := eq_true p130
                      replace q130 := eq_true q130
                      have p131 : 0 ≤ (x5_2 : Int) := of_decide_eq_true (by first | (with_reducible assumption) | assumption)
                      have q131 : x5_2 < (l0_2.length : Int) := of_decide_eq_true (by first | (with_reducible assumption) | assumption)
                      obtain ⟨ad131, A131_1, c131_1, e131, hx131_0, hx131_1, hl131_1, hi131_1⟩ := at_T49 HR0_2.out x5_2 p131 q131
                      obtain rfl : ad129 = ad131 := (by injection e131)
                      replace hx131_0 := (HB.out.cell (World.block_lt_of_cell? w _ hx131_0)).trans hx131_0
                      replace hx131_1 := (HB.out.cell (World.block_lt_of_cell? w _ hx131_1)).trans hx131_1
                      have HR131_1 := Aside0.mk hi131_1
                      have HC131_1 := Aside0.mk hl131_1
                      clear hi131_1 hl131_1
                      replace p131 := eq_true p131
                      replace q131 := eq_true q131
                      have ea_ := Option.some.inj (hx129_1.symm.trans hx131_1)
                      injection ea_ with ea_ en_ ec_
                      subst ea_
                      subst ec_
                      clear en_
                      have p132 : 0 ≤ (x5_2 : Int) := of_decide_eq_true (by first | (with_reducible assumption) | assumption)
                      have q132 : x5_2 < (l1_2.length : Int) := of_decide_eq_true (by first | (with_reducible assumption) | assumption)
                      obtain ⟨ad132, A132_1, c132_1, e132, hx132_0, hx132_1, hl132_1, hi132_1⟩ := at_T49 HR1_2.out x5_2 p132 q132
                      obtain rfl : ad130 = ad132 := (by injection e132)
                      replace hx132_0 := (HB.out.cell (World.block_lt_of_cell? w _ hx132_0)).trans hx132_0
                      replace hx132_1 := (HB.out.cell (World.block_lt_of_cell? w _ hx132_1)).trans hx132_1
                      have HR132_1 := Aside0.mk hi132_1
                      have HC132_1 := Aside0.mk hl132_1
                      clear hi132_1 hl132_1
                      replace p132 := eq_true p132
                      replace q132 := eq_true q132
                      have ea_ := Option.some.inj (hx130_1.symm.trans hx132_1)
                      injection ea_ with ea_ en_ ec_
                      subst ea_
                      subst ec_
                      clear en_
                      go_wp2_with (first | (go_at_call 65; (with_reducible refine (vivariumref11_ints.calls k2 _ _ ((rd_T49 l0_2 x5_2).f1) _ _ ((rd_T49 l1_2 x5_2).f1) true _ ?side1 ?side2 ?side3 ?side4 A26.out).mono ?_); (case side1 => repeat (first | exact (Kd.C_below HR131_1.out HB.out) | (with_reducible refine Kd.C_alloc ?_ _) | (with_reducible refine Kd.C_drewN ?_ _) | (with_reducible refine Kd.C_drew ?_))); (case side2 => exact HC131_1.out); (case side3 => repeat (first | exact (Kd.C_below HR132_1.out HB.out) | (with_reducible refine Kd.C_alloc ?_ _) | (with_reducible refine Kd.C_drewN ?_ _) | (with_reducible refine Kd.C_drew ?_))); (case side4 => exact HC132_1.out); rintro e w' ⟨rfl, ⟨nd, rfl⟩⟩; (try first | exact ⟨rfl, _, World.drewN_drewN _ _ _⟩ | exact ⟨rfl, _, Eq.trans (World.drewN_drewN _ _ _) (congrArg (World.drewN _) (Nat.add_assoc _ _ _))⟩)))
                      repeat (go_quiet (first | (go_at_call 65; (with_reducible refine (vivariumref11_ints.calls k2 _ _ ((rd_T49 l0_2 x5_2).f1) _ _ ((rd_T49 l1_2 x5_2).f1) true _ ?side1 ?side2 ?side3 ?side4 A26.out).mono ?_); (case side1 => repeat (first | exact (Kd.C_below HR131_1.out HB.out) | (with_reducible refine Kd.C_alloc ?_ _) | (with_reducible refine Kd.C_drewN ?_ _) | (with_reducible refine Kd.C_drew ?_))); (case side2 => exact HC131_1.out); (case side3 => repeat (first | exact (Kd.C_below HR132_1.out HB.out) | (with_reducible refine Kd.C_alloc ?_ _) | (with_reducible refine Kd.C_drewN ?_ _) | (with_reducible refine Kd.C_drew ?_))); (case side4 => exact HC132_1.out); rintro e w' ⟨rfl, ⟨nd, rfl⟩⟩; (try first | exact ⟨rfl, _, World.drewN_drewN _ _ _⟩ | exact ⟨rfl, _, Eq.trans (World.drewN_drewN _ _ _) (congrArg (World.drewN _) (Nat.add_assoc _ _ _))⟩))); try go_wp2_with (first | (go_at_call 65; (with_reducible refine (vivariumref11_ints.calls k2 _ _ ((rd_T49 l0_2 x5_2).f1) _ _ ((rd_T49 l1_2 x5_2).f1) true _ ?side1 ?side2 ?side3 ?side4 A26.out).mono ?_); (case side1 => repeat (first | exact (Kd.C_below HR131_1.out HB.out) | (with_reducible refine Kd.C_alloc ?_ _) | (with_reducible refine Kd.C_drewN ?_ _) | (with_reducible refine Kd.C_drew ?_))); (case side2 => exact HC131_1.out); (case side3 => repeat (first | exact (Kd.C_below HR132_1.out HB.out) | (with_reducible refine Kd.C_alloc ?_ _) | (with_reducible refine Kd.C_drewN ?_ _) | (with_reducible refine Kd.C_drew ?_))); (case side4 => exact HC132_1.out); rintro e w' ⟨rfl, ⟨nd, rfl⟩⟩; (try first | exact ⟨rfl, _, World.drewN_drewN _ _ _⟩ | exact ⟨rfl, _, Eq.trans (World.drewN_drewN _ _ _) (congrArg (World.drewN _) (Nat.add_assoc _ _ _))⟩))))
                      go_roundg k2
                      case measure => have := HJ2.out; have := HK2.out; omega
                      case rel => exact ⟨(wrap64 (x5_2 + 1)), (by first | rfl | (simp; done) | (simp [*]; done) | (simp [wrap64]; done)), H', ⟨by have := HJ2.out; have := HK2.out; omega⟩, ⟨by (with_reducible repeat (first | refine blk_drewN ?_ _ | refine blk_drew ?_ | refine blk_alloc ?_ _)); exact BK127.out⟩, ⟨by (with_reducible repeat (first | refine blk_drewN ?_ _ | refine blk_drew ?_ | refine blk_alloc ?_ _)); exact BK128.out⟩, ⟨by repeat (first | (with_reducible first | exact HB.out | apply below_alloc | apply pw_below_drewN | apply below_drew1 | refine below_set ?_ GE127.out | refine below_set ?_ GE128.out) | exact HB.out)⟩⟩
                    · replace c27 := Bool.eq_false_iff.mpr c27
                      subst c27
                      have H1 : (some false) = some r := by rw [if_neg (show ¬ (false = true) by decide)] at H; exact H
                      clear H
                      have H := H1
                      clear H1
                      obtain rfl := Option.some.inj H
                      have hnb31 := NB127_128.out
                      have hnc31 := NB128_127.out
                      have hcz32_0 : wr.cell? ⟨gb127, 0, none⟩ = some (.int .i64 a0_0) := (blk_cell BK127.out 0).trans rfl
                      have hcz32_1 : wr.cell? ⟨gb127, 1, none⟩ = some (.int .i64 a0_1) := (blk_cell BK127.out 1).trans rfl
                      have hcz32_2 : wr.cell? ⟨gb127, 2, none⟩ = some (.slice A0_2 l0_2.length c0_2) := (blk_cell BK127.out 2).trans rfl
                      have hcz32_3 : wr.cell? ⟨gb127, 3, none⟩ = some (.int .i64 a0_3) := (blk_cell BK127.out 3).trans rfl
                      have hfz32_0 := blk_frozen BK127.out 0
                      have hfz32_1 := blk_frozen BK127.out 1
                      have hfz32_2 := blk_frozen BK127.out 2
                      have hfz32_3 := blk_frozen BK127.out 3
                      have p129 : 0 ≤ (x5_2 : Int) := of_decide_eq_true (by first | (with_reducible assumption) | assumption)
                      have q129 : x5_2 < (l0_2.length : Int) := of_decide_eq_true (by first | (with_reducible assumption) | assumption)
                      obtain ⟨ad129, A129_1, c129_1, e129, hx129_0, hx129_1, hl129_1, hi129_1⟩ := at_T49 HR0_2.out x5_2 p129 q129
                      cases e129
                      replace hx129_0 := (HB.out.cell (World.block_lt_of_cell? w _ hx129_0)).trans hx129_0
                      replace hx129_1 := (HB.out.cell (World.block_lt_of_cell? w _ hx129_1)).trans hx129_1
                      have HR129_1 := Aside0.mk hi129_1
                      have HC129_1 := Aside0.mk hl129_1
                      clear hi129_1 hl129_1
                      replace p129 := eq_true p129
                      replace q129 := eq_true q129
                      have hcz33_0 : wr.cell? ⟨gb128, 0, none⟩ = some (.int .i64 a1_0) := (blk_cell BK128.out 0).trans rfl
                      have hcz33_1 : wr.cell? ⟨gb128, 1, none⟩ = some (.int .i64 a1_1) := (blk_cell BK128.out 1).trans rfl
                      have hcz33_2 : wr.cell? ⟨gb128, 2, none⟩ = some (.slice A1_2 l1_2.length c1_2) := (blk_cell BK128.out 2).trans rfl
                      have hcz33_3 : wr.cell? ⟨gb128, 3, none⟩ = some (.int .i64 a1_3) := (blk_cell BK128.out 3).trans rfl
                      have hfz33_0 := blk_frozen BK128.out 0
                      have hfz33_1 := blk_frozen BK128.out 1
                      have hfz33_2 := blk_frozen BK128.out 2
                      have hfz33_3 := blk_frozen BK128.out 3
                      have p130 : 0 ≤ (x5_2 : Int) := of_decide_eq_true (by first | (with_reducible assumption) | assumption)
                      have q130 : x5_2 < (l1_2.length : Int) := of_decide_eq_true (by first | (with_reducible assumption) | assumption)
                      obtain ⟨ad130, A130_1, c130_1, e130, hx130_0, hx130_1, hl130_1, hi130_1⟩ := at_T49 HR1_2.out x5_2 p130 q130
                      cases e130
                      replace hx130_0 := (HB.out.cell (World.block_lt_of_cell? w _ hx130_0)).trans hx130_0
                      replace hx130_1 := (HB.out.cell (World.block_lt_of_cell? w _ hx130_1)).trans hx130_1
                      have HR130_1 := Aside0.mk hi130_1
                      have HC130_1 := Aside0.mk hl130_1
                      clear hi130_1 hl130_1
                      replace p130 := eq_true p130
                      replace q130 := eq_true q130
                      have p131 : 0 ≤ (x5_2 : Int) := of_decide_eq_true (by first | (with_reducible assumption) | assumption)
                      have q131 : x5_2 < (l0_2.length : Int) := of_decide_eq_true (by first | (with_reducible assumption) | assumption)
                      obtain ⟨ad131, A131_1, c131_1, e131, hx131_0, hx131_1, hl131_1, hi131_1⟩ := at_T49 HR0_2.out x5_2 p131 q131
                      obtain rfl : ad129 = ad131 := (by injection e131)
                      replace hx131_0 := (HB.out.cell (World.block_lt_of_cell? w _ hx131_0)).trans hx131_0
                      replace hx131_1 := (HB.out.cell (World.block_lt_of_cell? w _ hx131_1)).trans hx131_1
                      have HR131_1 := Aside0.mk hi131_1
                      have HC131_1 := Aside0.mk hl131_1
                      clear hi131_1 hl131_1
                      replace p131 := eq_true p131
                      replace q131 := eq_true q131
                      have ea_ := Option.some.inj (hx129_1.symm.trans hx131_1)
                      injection ea_ with ea_ en_ ec_
                      subst ea_
                      subst ec_
                      clear en_
                      have p132 : 0 ≤ (x5_2 : Int) := of_decide_eq_true (by first | (with_reducible assumption) | assumption)
                      have q132 : x5_2 < (l1_2.length : Int) := of_decide_eq_true (by first | (with_reducible assumption) | assumption)
                      obtain ⟨ad132, A132_1, c132_1, e132, hx132_0, hx132_1, hl132_1, hi132_1⟩ := at_T49 HR1_2.out x5_2 p132 q132
                      obtain rfl : ad130 = ad132 := (by injection e132)
                      replace hx132_0 := (HB.out.cell (World.block_lt_of_cell? w _ hx132_0)).trans hx132_0
                      replace hx132_1 := (HB.out.cell (World.block_lt_of_cell? w _ hx132_1)).trans hx132_1
                      have HR132_1 := Aside0.mk hi132_1
                      have HC132_1 := Aside0.mk hl132_1
                      clear hi132_1 hl132_1
                      replace p132 := eq_true p132
                      replace q132 := eq_true q132
                      have ea_ := Option.some.inj (hx130_1.symm.trans hx132_1)
                      injection ea_ with ea_ en_ ec_
                      subst ea_
                      subst ec_
                      clear en_
                      go_wp2_with (first | (go_at_call 65; (with_reducible refine (vivariumref11_ints.calls k2 _ _ ((rd_T49 l0_2 x5_2).f1) _ _ ((rd_T49 l1_2 x5_2).f1) false _ ?side1 ?side2 ?side3 ?side4 A26.out).mono ?_); (case side1 => repeat (first | exact (Kd.C_below HR131_1.out HB.out) | (with_reducible refine Kd.C_alloc ?_ _) | (with_reducible refine Kd.C_drewN ?_ _) | (with_reducible refine Kd.C_drew ?_))); (case side2 => exact HC131_1.out); (case side3 => repeat (first | exact (Kd.C_below HR132_1.out HB.out) | (with_reducible refine Kd.C_alloc ?_ _) | (with_reducible refine Kd.C_drewN ?_ _) | (with_reducible refine Kd.C_drew ?_))); (case side4 => exact HC132_1.out); rintro e w' ⟨rfl, ⟨nd, rfl⟩⟩; (try first | exact ⟨rfl, _, World.drewN_drewN _ _ _⟩ | exact ⟨rfl, _, Eq.trans (World.drewN_drewN _ _ _) (congrArg (World.drewN _) (Nat.add_assoc _ _ _))⟩)))
                      repeat (go_quiet (first | (go_at_call 65; (with_reducible refine (vivariumref11_ints.calls k2 _ _ ((rd_T49 l0_2 x5_2).f1) _ _ ((rd_T49 l1_2 x5_2).f1) false _ ?side1 ?side2 ?side3 ?side4 A26.out).mono ?_); (case side1 => repeat (first | exact (Kd.C_below HR131_1.out HB.out) | (with_reducible refine Kd.C_alloc ?_ _) | (with_reducible refine Kd.C_drewN ?_ _) | (with_reducible refine Kd.C_drew ?_))); (case side2 => exact HC131_1.out); (case side3 => repeat (first | exact (Kd.C_below HR132_1.out HB.out) | (with_reducible refine Kd.C_alloc ?_ _) | (with_reducible refine Kd.C_drewN ?_ _) | (with_reducible refine Kd.C_drew ?_))); (case side4 => exact HC132_1.out); rintro e w' ⟨rfl, ⟨nd, rfl⟩⟩; (try first | exact ⟨rfl, _, World.drewN_drewN _ _ _⟩ | exact ⟨rfl, _, Eq.trans (World.drewN_drewN _ _ _) (congrArg (World.drewN _) (Nat.add_assoc _ _ _))⟩))); try go_wp2_with (first | (go_at_call 65; (with_reducible refine (vivariumref11_ints.calls k2 _ _ ((rd_T49 l0_2 x5_2).f1) _ _ ((rd_T49 l1_2 x5_2).f1) false _ ?side1 ?side2 ?side3 ?side4 A26.out).mono ?_); (case side1 => repeat (first | exact (Kd.C_below HR131_1.out HB.out) | (with_reducible refine Kd.C_alloc ?_ _) | (with_reducible refine Kd.C_drewN ?_ _) | (with_reducible refine Kd.C_drew ?_))); (case side2 => exact HC131_1.out); (case side3 => repeat (first | exact (Kd.C_below HR132_1.out HB.out) | (with_reducible refine Kd.C_alloc ?_ _) | (with_reducible refine Kd.C_drewN ?_ _) | (with_reducible refine Kd.C_drew ?_))); (case side4 => exact HC132_1.out); rintro e w' ⟨rfl, ⟨nd, rfl⟩⟩; (try first | exact ⟨rfl, _, World.drewN_drewN _ _ _⟩ | exact ⟨rfl, _, Eq.trans (World.drewN_drewN _ _ _) (congrArg (World.drewN _) (Nat.add_assoc _ _ _))⟩))))
                      go_ret
                      exact ⟨by first | rfl | (simp [errW_none, errW_some] <;> rfl) | (simp [*, errW_none, errW_some] <;> rfl), by repeat (first | (with_reducible first | exact HB.out | apply below_alloc | apply pw_below_drewN | apply below_drew1 | refine below_set ?_ GE127.out | refine below_set ?_ GE128.out) | exact HB.out)⟩
                  · rw [if_neg c25] at H
                    have c25b0 : (((rd_T49 l0_2 x5_2).f0) == ((rd_T49 l1_2 x5_2).f0)) = false := beq_eq_false_iff_ne.mpr c25
                    have c25b1 : (((rd_T49 l0_2 x5_2).f0) != ((rd_T49 l1_2 x5_2).f0)) = true := bne_iff_ne.mpr c25
                    obtain rfl := Option.some.inj H
                    have hnb34 := NB127_128.out
                    have hnc34 := NB128_127.out
                    have hcz35_0 : wr.cell? ⟨gb127, 0, none⟩ = some (.int .i64 a0_0) := (blk_cell BK127.out 0).trans rfl
                    have hcz35_1 : wr.cell? ⟨gb127, 1, none⟩ = some (.int .i64 a0_1) := (blk_cell BK127.out 1).trans rfl
                    have hcz35_2 : wr.cell? ⟨gb127, 2, none⟩ = some (.slice A0_2 l0_2.length c0_2) := (blk_cell BK127.out 2).trans rfl
                    have hcz35_3 : wr.cell? ⟨gb127, 3, none⟩ = some (.int .i64 a0_3) := (blk_cell BK127.out 3).trans rfl
                    have hfz35_0 := blk_frozen BK127.out 0
                    have hfz35_1 := blk_frozen BK127.out 1
                    have hfz35_2 := blk_frozen BK127.out 2
                    have hfz35_3 := blk_frozen BK127.out 3
                    have p129 : 0 ≤ (x5_2 : Int) := of_decide_eq_true (by first | (with_reducible assumption) | assumption)
                    have q129 : x5_2 < (l0_2.length : Int) := of_decide_eq_true (by first | (with_reducible assumption) | assumption)
                    obtain ⟨ad129, A129_1, c129_1, e129, hx129_0, hx129_1, hl129_1, hi129_1⟩ := at_T49 HR0_2.out x5_2 p129 q129
                    cases e129
                    replace hx129_0 := (HB.out.cell (World.block_lt_of_cell? w _ hx129_0)).trans hx129_0
                    replace hx129_1 := (HB.out.cell (World.block_lt_of_cell? w _ hx129_1)).trans hx129_1
                    have HR129_1 := Aside0.mk hi129_1
                    have HC129_1 := Aside0.mk hl129_1
                    clear hi129_1 hl129_1
                    replace p129 := eq_true p129
                    replace q129 := eq_true q129
                    have hcz36_0 : wr.cell? ⟨gb128, 0, none⟩ = some (.int .i64 a1_0) := (blk_cell BK128.out 0).trans rfl
                    have hcz36_1 : wr.cell? ⟨gb128, 1, none⟩ = some (.int .i64 a1_1) := (blk_cell BK128.out 1).trans rfl
                    have hcz36_2 : wr.cell? ⟨gb128, 2, none⟩ = some (.slice A1_2 l1_2.length c1_2) := (blk_cell BK128.out 2).trans rfl
                    have hcz36_3 : wr.cell? ⟨gb128, 3, none⟩ = some (.int .i64 a1_3) := (blk_cell BK128.out 3).trans rfl
                    have hfz36_0 := blk_frozen BK128.out 0
                    have hfz36_1 := blk_frozen BK128.out 1
                    have hfz36_2 := blk_frozen BK128.out 2
                    have hfz36_3 := blk_frozen BK128.out 3
                    have p130 : 0 ≤ (x5_2 : Int) := of_decide_eq_true (by first | (with_reducible assumption) | assumption)
                    have q130 : x5_2 < (l1_2.length : Int) := of_decide_eq_true (by first | (with_reducible assumption) | assumption)
                    obtain ⟨ad130, A130_1, c130_1, e130, hx130_0, hx130_1, hl130_1, hi130_1⟩ := at_T49 HR1_2.out x5_2 p130 q130
                    cases e130
                    replace hx130_0 := (HB.out.cell (World.block_lt_of_cell? w _ hx130_0)).trans hx130_0
                    replace hx130_1 := (HB.out.cell (World.block_lt_of_cell? w _ hx130_1)).trans hx130_1
                    have HR130_1 := Aside0.mk hi130_1
                    have HC130_1 := Aside0.mk hl130_1
                    clear hi130_1 hl130_1
                    replace p130 := eq_true p130
                    replace q130 := eq_true q130
                    go_wp2
                    repeat (go_quiet (fail); try go_wp2)
                    go_ret
                    exact ⟨by first | rfl | (simp [errW_none, errW_some] <;> rfl) | (simp [*, errW_none, errW_some] <;> rfl), by repeat (first | (with_reducible first | exact HB.out | apply below_alloc | apply pw_below_drewN | apply below_drew1 | refine below_set ?_ GE127.out | refine below_set ?_ GE128.out) | exact HB.out)⟩
                · rw [if_neg c24] at H
                  exact absurd H (by simp)
              · rw [if_neg c23] at H
                exact absurd H (by simp)
            · rw [if_neg c22] at H
              have c22b0 : decide (x5_2 < (l0_2.length : Int)) = false := decide_eq_false c22
              clear c22
              obtain rfl := Option.some.inj H
              have hnb37 := NB127_128.out
              have hnc37 := NB128_127.out
              have hcz38_0 : wr.cell? ⟨gb127, 0, none⟩ = some (.int .i64 a0_0) := (blk_cell BK127.out 0).trans rfl
              have hcz38_1 : wr.cell? ⟨gb127, 1, none⟩ = some (.int .i64 a0_1) := (blk_cell BK127.out 1).trans rfl
              have hcz38_2 : wr.cell? ⟨gb127, 2, none⟩ = some (.slice A0_2 l0_2.length c0_2) := (blk_cell BK127.out 2).trans rfl
              have hcz38_3 : wr.cell? ⟨gb127, 3, none⟩ = some (.int .i64 a0_3) := (blk_cell BK127.out 3).trans rfl
              have hfz38_0 := blk_frozen BK127.out 0
              have hfz38_1 := blk_frozen BK127.out 1
              have hfz38_2 := blk_frozen BK127.out 2
              have hfz38_3 := blk_frozen BK127.out 3
              go_wp2
              repeat (go_quiet (fail); try go_wp2)
              go_ret
              exact ⟨by first | rfl | (simp [errW_none, errW_some] <;> rfl) | (simp [*, errW_none, errW_some] <;> rfl), by repeat (first | (with_reducible first | exact HB.out | apply below_alloc | apply pw_below_drewN | apply below_drew1 | refine below_set ?_ GE127.out | refine below_set ?_ GE128.out) | exact HB.out)⟩
end Go.Proofs.YtbnonnogkgbpiaaDoor.PT
end
section
namespace Go.Proofs.YtbnonnogkgbpiaaDoor.AliveT
open Go Go.RowKit Go.Proofs.YtbnonnogkgbpiaaDoorW.PrintWords Go.Proofs.YtbnonnogkgbpiaaDoorW.PrintLast Go.Proofs.YtbnonnogkgbpiaaDoorW.PrintMore Go.Proofs.YtbnonnogkgbpiaaDoor.PT Go.Proofs.YtbnonnogkgbpiaaDoor.TreePlain Go.Proofs.YtbnonnogkgbpiaaDoor.TreeText Go.Proofs.YtbnonnogkgbpiaaDoor.Forest Go.Proofs.YtbnonnogkgbpiaaDoor.Says
set_option linter.unusedVariables false
set_option linter.unusedSimpArgs false
end Go.Proofs.YtbnonnogkgbpiaaDoor.AliveT
end
section
namespace Go.Proofs.YtbnonnogkgbpiaaDoor.LentT
open Go Go.RowKit Go.Proofs.YtbnonnogkgbpiaaDoorW.PrintWords Go.Proofs.YtbnonnogkgbpiaaDoorW.PrintLast Go.Proofs.YtbnonnogkgbpiaaDoorW.PrintMore Go.Proofs.YtbnonnogkgbpiaaDoor.PT Go.Proofs.YtbnonnogkgbpiaaDoor.TreePlain Go.Proofs.YtbnonnogkgbpiaaDoor.TreeText
set_option linter.unusedVariables false
set_option linter.unusedSimpArgs false
def lcells (l : List S49) (K : List (Nat × Nat)) : Nat → List Value
  | 0 => []
  | i + 1 => lcells l K i ++ [.int .u8 (nd l i).f0, .slice (some ⟨(K.getD i (0, 0)).1, 0, none⟩) (nd l i).f1.length (K.getD i (0, 0)).2]
def marks2 : Nat → List Value
  | 0 => []
  | m + 1 => marks2 m ++ [.int .u8 77, .slice none 0 0]
theorem lcells_len (l : List S49) (K : List (Nat × Nat)) : ∀ i, (lcells l K i).length = 2 * i
  | 0 => rfl
  | i + 1 => by
    show (_ ++ [_, _]).length = _
    rw [List.length_append, lcells_len l K i]
    rfl
theorem lcells_congr (l : List S49) (K K' : List (Nat × Nat)) : ∀ i, (∀ j, j < i → K.getD j (0, 0) = K'.getD j (0, 0)) → lcells l K i = lcells l K' i
  | 0, _ => rfl
  | i + 1, h => by
    show _ ++ [_, _] = _ ++ [_, _]
    rw [lcells_congr l K K' i (fun j hj => h j (by omega)), h i (by omega)]
theorem lcells_at (l : List S49) (K : List (Nat × Nat)) : ∀ (n j : Nat) (R : List Value), j < n → (lcells l K n ++ R)[2 * j]? = some (.int .u8 (nd l j).f0) ∧ (lcells l K n ++ R)[2 * j + 1]? = some (.slice (some ⟨(K.getD j (0, 0)).1, 0, none⟩) (nd l j).f1.length (K.getD j (0, 0)).2)
  | 0, j, R, h => by omega
  | n + 1, j, R, h => by
    have hl := lcells_len l K n
    show ((lcells l K n ++ [_, _]) ++ R)[2 * j]? = _ ∧ ((lcells l K n ++ [_, _]) ++ R)[2 * j + 1]? = _
    rw [List.append_assoc]
    by_cases e : j < n
    · exact lcells_at l K n j _ e
    · have : j = n := by omega
      subst this
      constructor
      · rw [List.getElem?_append_right (by omega), hl, Nat.sub_self]
        rfl
      · rw [List.getElem?_append_right (by omega), hl, show 2 * j + 1 - 2 * j = 1 by omega]
        rfl
theorem addr_add (g n : Nat) : (⟨g, 0, none⟩ : Addr).add n = ⟨g, n, none⟩ := by
  unfold Addr.add
  split
  · rename_i h
    rw [h]
  · simp
structure LentAt (B : Nat) (W : World) (nv : Value) (l : List S49) (i m : Nat) (K : List (Nat × Nat)) : Prop where
  row : W.ownsRow B 49 2 nv (i + m) (lcells l K i ++ marks2 m)
  len : K.length = i
  kid : ∀ (j g c : Nat), K[j]? = some (g, c) → W.ownsRow B 3 1 (.slice (some ⟨g, 0, none⟩) ((nd l j).f1.length + 2) c) ((nd l j).f1.length + 2) (nums .i64 ((nd l j).f1 ++ [-7, -8]))
  ap : ∀ (i j : Nat) (a b : Nat × Nat), i ≠ j → K[i]? = some a → K[j]? = some b → a.1 ≠ b.1
section
variable {B : Nat} {W W' : World} {nv : Value} {l : List S49} {i m : Nat} {K : List (Nat × Nat)}
theorem LentAt.move (h : LentAt B W nv l i m K) (h1 : ∀ k, nv.ownBlock = some k → W'.heap[k]? = W.heap[k]?) (h2 : ∀ p ∈ K, W'.heap[p.1]? = W.heap[p.1]?) : LentAt B W' nv l i m K :=
  ⟨own_move h.row h1, h.len, fun j g c hj => own_move (h.kid j g c hj) (fun k hk => by
    obtain rfl : g = k := by simpa [Value.ownBlock] using hk
    exact h2 (g, c) (List.mem_of_getElem? hj)), h.ap⟩
theorem LentAt.on (h : LentAt B W nv l i m K) (hb : Below W.heap.size W W') : LentAt B W' nv l i m K :=
  h.move (fun k hk => hb.block k (own_lt h.row k hk)) (fun p hp => by
    obtain ⟨j, hj, e⟩ := List.mem_iff_getElem.1 hp
    exact hb.block p.1 (own_lt (h.kid j p.1 p.2 (by rw [List.getElem?_eq_getElem hj, e])) p.1 rfl))
theorem LentAt.lower {B' : Nat} (h : LentAt B W nv l i m K) (hb : B' ≤ B) : LentAt B' W nv l i m K :=
  ⟨own_weaken h.row hb, h.len, fun j g c hj => own_weaken (h.kid j g c hj) hb, h.ap⟩
theorem LentAt.start (B : Nat) (W : World) (l : List S49) : LentAt B W (.slice none 0 0) l 0 0 [] :=
  ⟨own_nil _ _ _ _, rfl, fun j g c h => by simp at h, fun i j a b _ h => by simp at h⟩
theorem LentAt.snoc {v1 : Value} {g c : Nat} (h : LentAt B W nv l i 0 K) (hg : W.grownBy W' nv.ownBlock) (ho : W'.ownsRow B 49 2 v1 (i + 1) (lcells l K i ++ [.int .u8 (nd l i).f0, .slice (some ⟨g, 0, none⟩) (nd l i).f1.length c]))
    (hv : W.ownsRow B 3 1 (.slice (some ⟨g, 0, none⟩) ((nd l i).f1.length + 2) c) ((nd l i).f1.length + 2) (nums .i64 ((nd l i).f1 ++ [-7, -8]))) (hk : ∀ p ∈ K, p.1 ≠ g) : LentAt B W' v1 l (i + 1) 0 (K ++ [(g, c)]) := by
  have hlen := h.len
  have other : ∀ {v : Value} {n : Nat} {xs : List Value}, W.ownsRow B 3 1 v n xs → W'.ownsRow B 3 1 v n xs := fun {v n xs} h2 => own_move h2 (fun k hk => hg.block k (own_lt h2 k hk) (fun e => by
    obtain ⟨cs, hc⟩ := own_typed h2 k hk
    obtain ⟨cs', hc'⟩ := own_typed h.row k e.symm
    rw [hc] at hc'
    injection hc' with hc'
    injection hc' with _ hc'
    exact absurd hc' (by decide)))
  have new : (K ++ [(g, c)]).getD i (0, 0) = (g, c) := by rw [List.getD_eq_getElem?_getD, ← hlen, List.getElem?_append_right (Nat.le_refl _), Nat.sub_self]; rfl
  refine ⟨?_, by simp [hlen], ?_, ?_⟩
  · show W'.ownsRow B _ 2 v1 (i + 1 + 0) ((lcells l (K ++ [(g, c)]) i ++ [_, _]) ++ [])
    rw [List.append_nil, new, lcells_congr l (K ++ [(g, c)]) K i (fun j hj => by rw [List.getD_eq_getElem?_getD, List.getD_eq_getElem?_getD, List.getElem?_append_left (by omega)])]
    exact ho
  · intro j g' c' hj
    by_cases e : j < i
    · rw [List.getElem?_append_left (by omega)] at hj
      exact other (h.kid j g' c' hj)
    · rw [List.getElem?_append_right (by omega)] at hj
      have e0 : j = i := by
        have := (List.getElem?_eq_some_iff.1 hj).1
        simp at this
        omega
      subst e0
      rw [hlen, Nat.sub_self] at hj
      obtain ⟨rfl, rfl⟩ : g = g' ∧ c = c' := by simpa using hj
      exact other hv
  · intro a b p q hne hp hq
    have hK : ∀ (j : Nat) (r : Nat × Nat), (K ++ [(g, c)])[j]? = some r → (j < i ∧ r ∈ K) ∨ (j = i ∧ r = (g, c)) := by
      intro j r hj
      by_cases e : j < i
      · rw [List.getElem?_append_left (by omega)] at hj
        exact .inl ⟨e, List.mem_of_getElem? hj⟩
      · rw [List.getElem?_append_right (by omega)] at hj
        have e0 : j = i := by
          have := (List.getElem?_eq_some_iff.1 hj).1
          simp at this
          omega
        subst e0
        rw [hlen, Nat.sub_self] at hj
        exact .inr ⟨rfl, by simpa using hj.symm⟩
    rcases hK a p hp with ⟨ha, hpm⟩ | ⟨rfl, rfl⟩
    · rcases hK b q hq with ⟨hb, hqm⟩ | ⟨rfl, rfl⟩
      · rw [List.getElem?_append_left (by omega)] at hp hq
        exact h.ap a b p q hne hp hq
      · exact hk p hpm
    · rcases hK b q hq with ⟨hb, hqm⟩ | ⟨rfl, rfl⟩
      · exact (hk q hqm).symm
      · exact absurd rfl hne
theorem LentAt.mark {v1 : Value} (h : LentAt B W nv l i m K) (hg : W.grownBy W' nv.ownBlock) (ho : W'.ownsRow B 49 2 v1 (i + m + 1) ((lcells l K i ++ marks2 m) ++ [.int .u8 77, .slice none 0 0])) : LentAt B W' v1 l i (m + 1) K :=
  ⟨by rw [show lcells l K i ++ marks2 (m + 1) = (lcells l K i ++ marks2 m) ++ [.int .u8 77, .slice none 0 0] from (List.append_assoc ..).symm]; exact ho, h.len, fun j g c hj => own_move (h.kid j g c hj) (fun k hk => hg.block k (own_lt (h.kid j g c hj) k hk) (fun e => by
    obtain ⟨cs, hc⟩ := own_typed (h.kid j g c hj) k hk
    obtain ⟨cs', hc'⟩ := own_typed h.row k e.symm
    rw [hc] at hc'
    injection hc' with hc'
    injection hc' with _ hc'
    exact absurd hc' (by decide))), h.ap⟩
theorem LentAt.set (h : LentAt B W nv l i m K) {q j : Nat} {v : Value} {cs : Array Value} {ty : TypeId} {f : Nat × Nat} (hq : W.heap[q]? = some (.cells cs ty f)) (h1 : ty ≠ 49) (h2 : ty ≠ 3) : LentAt B (W.setCell ⟨q, j, none⟩ v) nv l i m K := by
  have far : ∀ (k : Nat) (cs' : Array Value) (t' : TypeId) (f' : Nat × Nat), W.heap[k]? = some (.cells cs' t' f') → ty ≠ t' → (W.setCell ⟨q, j, none⟩ v).heap[k]? = W.heap[k]? := by
    intro k cs' t' f' hk hne
    exact Below.heap_setCell _ ⟨q, j, none⟩ _ _ (fun e => by
      rw [show k = q from e, hq] at hk
      injection hk with hk
      injection hk with _ hk
      exact hne hk)
  refine h.move (fun k hk => ?_) (fun p hp => ?_)
  · obtain ⟨cs', hc⟩ := own_typed h.row k hk
    exact far k _ _ _ hc h1
  · obtain ⟨j', hj, e⟩ := List.mem_iff_getElem.1 hp
    obtain ⟨cs', hc⟩ := own_typed (h.kid j' p.1 p.2 (by rw [List.getElem?_eq_getElem hj, e])) p.1 rfl
    exact far p.1 _ _ _ hc h2
theorem LentAt.reads {gn cn : Nat} (h : LentAt B W (.slice (some ⟨gn, 0, none⟩) (l.length + m) cn) l l.length m K) (hm : l.length ≤ 9223372036854775807) : Kd.C k49 W (some ⟨gn, 0, none⟩) l.length l := by
  refine ⟨rfl, hm, fun _ => ⟨_, rfl, fun j p hj => ?_⟩⟩
  have hjl : j < l.length := (List.getElem?_eq_some_iff.1 hj).1
  have hp : nd l j = p := by unfold nd; rw [List.getD_eq_getElem?_getD, hj]; rfl
  have hjK : j < K.length := by rw [h.len]; exact hjl
  have hk : K[j]? = some K[j] := List.getElem?_eq_getElem hjK
  have hkd : K.getD j (0, 0) = K[j] := by rw [List.getD_eq_getElem?_getD, hk]; rfl
  have ho := h.kid j _ _ hk
  have hr := own_reads' ho
  have hr2 := hr.take_ (nd l j).f1.length (by omega)
  rw [List.take_left'  rfl] at hr2
  have hcap : (nd l j).f1.length + 2 ≤ K[j].2 := own_cap ho
  obtain ⟨q1, q2⟩ := lcells_at l K l.length j (marks2 m) hjl
  rw [hkd] at q2
  have c1 := h.row.cellAt (2 * j) (by omega)
  have c2 := h.row.cellAt (2 * j + 1) (by omega)
  rw [q1] at c1
  rw [q2] at c2
  rw [hp] at c1 c2 hr2 hcap
  refine ⟨[.int .u8 p.f0, .slice (some ⟨K[j].1, 0, none⟩) p.f1.length K[j].2], rfl, k49_mk W p (by omega) (Kd.C_of_reads hr2), fun q u hu => ?_⟩
  match q, hu with
  | 0, hu =>
    obtain rfl := Option.some.inj hu
    have e : (⟨gn, 0, none⟩ : Addr).add (j * k49.sz + 0) = ⟨gn, 2 * j, none⟩ := by
      have : j * k49.sz + 0 = 2 * j := by show j * 2 + 0 = _; omega
      rw [this]
      exact addr_add gn _
    rw [e]
    exact c1
  | 1, hu =>
    obtain rfl := Option.some.inj hu
    have e : (⟨gn, 0, none⟩ : Addr).add (j * k49.sz + 1) = ⟨gn, 2 * j + 1, none⟩ := by
      have : j * k49.sz + 1 = 2 * j + 1 := by show j * 2 + 1 = _; omega
      rw [this]
      exact addr_add gn _
    rw [e]
    exact c2
end
end Go.Proofs.YtbnonnogkgbpiaaDoor.LentT
end
section
namespace Go.Proofs.YtbnonnogkgbpiaaDoor.LentT
open Go Go.RowKit Go.Proofs.YtbnonnogkgbpiaaDoorW.PrintWords Go.Proofs.YtbnonnogkgbpiaaDoorW.PrintLast Go.Proofs.YtbnonnogkgbpiaaDoorW.PrintMore Go.Proofs.YtbnonnogkgbpiaaDoor.PT Go.Proofs.YtbnonnogkgbpiaaDoor.TreePlain Go.Proofs.YtbnonnogkgbpiaaDoor.TreeText
set_option linter.unusedVariables false
set_option linter.unusedSimpArgs false
theorem four {W : World} {t ty : Nat} {v0 v1 v2 v3 : Value} (h : W.heap[t]? = some (.cells #[v0, v1, v2, v3] ty (0, 0))) : W.cell? ⟨t, 0, none⟩ = some v0 ∧ W.cell? ⟨t, 1, none⟩ = some v1 ∧ W.cell? ⟨t, 2, none⟩ = some v2 ∧ W.cell? ⟨t, 3, none⟩ = some v3 :=
  ⟨(blk_cell h 0).trans rfl, (blk_cell h 1).trans rfl, (blk_cell h 2).trans rfl, (blk_cell h 3).trans rfl⟩
theorem lit_c {W : World} {e : TypeId} (k : IntKind) (xs : List Int) (hm : xs.length ≤ 9223372036854775807) : Kd.C (Kd.int k) (W.alloc (.cells (nums k xs).toArray e)) (some ⟨W.heap.size, 0, none⟩) xs.length xs :=
  Kd.C_of_reads (own_reads' (own_lit W 0 e k xs (Nat.zero_le _) hm))
def SC (t : Nat) (ad : Addr) (x : Int) (N : Value) (s : Int) (v : Value) (W : World) : Prop := W.cell? ⟨t, 2, none⟩ = some N ∧ W.cell? (ad.add (x.toNat * 2)) = some (.int .u8 s) ∧ W.cell? ⟨(ad.add (x.toNat * 2)).block, (ad.add (x.toNat * 2)).off + 1, none⟩ = some v
theorem SC.on {t : Nat} {ad : Addr} {x : Int} {N : Value} {s : Int} {v : Value} {W W' : World} (h : SC t ad x N s v W) (hb : Below W.heap.size W W') : SC t ad x N s v W' := ⟨pw_cell_below hb h.1, pw_cell_below hb h.2.1, pw_cell_below hb h.2.2⟩
def LentTold (w : World) (st n : Int) (l : List S49) (rt : Int) (e : Ending) (w' : World) : Prop := ∃ gn cn K, e = .returned (.agg #[.int .i64 st, .int .i64 n, .slice (some ⟨gn, 0, none⟩) l.length cn, .int .i64 rt]) ∧ LentAt w.heap.size w' (.slice (some ⟨gn, 0, none⟩) (l.length + 2) cn) l l.length 2 K ∧ Below w.heap.size w w'
set_option maxHeartbeats 16000000 in
set_option maxRecDepth 100000 in
theorem lent_calls (st n : Int) (A : Option Addr) (c : Nat) (l : List S49) (rt : Int) (w : World) (hr : Kd.C k49 w A l.length l) (hc : l.length ≤ c) (hl : l.length ≤ 2000000) (hk : ∀ j, (nd l j).f1.length ≤ 2000000) :
    Calls Tryd.prog 35 #[.agg #[.int .i64 st, .int .i64 n, .slice A l.length c, .int .i64 rt]] w fun e w' => LentTold w st n l rt e w' := by
  have hu := Tryd.underlying24
  have hu49 := Tryd.underlying49
  have HR := Aside0.mk hr
  have HC := Aside0.mk hc
  have HL := Aside0.mk (And.intro hl hk)
  have HB := Aside0.mk (Below.refl w.heap.size w)
  clear hr hc hl hk
  go_enter Tryd.func35, Tryd.ntmps35
  go_wp2_with (first
    | ((with_reducible refine gate_dst (N := 1) rfl ?_); refine box_event ?hg (N := 1) ?hd (cs := #[.int .i64 st, .int .i64 n, .slice A l.length c, .int .i64 rt]) (t := 24) ?hr ?_; (case hd => rfl); (case hg => rfl); (case hr => first | (go_simp; done) | (go_simp; rfl)); intro t hg W9 hbox hb; have n_ := below_step HB.out hb; have GE1 := Aside0.mk (show w.heap.size ≤ t by rw [hg]; exact Nat.le_refl _); clear HB; have HB := Aside0.mk n_; have BX := Aside0.mk hbox; clear n_ hg hbox hb)
    | ((with_reducible refine gate_dst (N := 2) rfl ?_); refine box_event ?hg2 (N := 2) ?hd2 (cs := #[.int .i64 0, .int .i64 0, .slice none 0 0, .int .i64 0]) (t := 24) ?hr2 ?_; (case hd2 => rfl); (case hg2 => rfl); (case hr2 => first | (go_simp; done) | (go_simp; rfl)); intro t2 hg W8 hbox hb; have n_ := below_step HB.out hb; have m_ := blk_below BX.out hb; have NE := Aside0.mk (show t ≠ t2 by have h1 := blk_lt BX.out; omega); have GE2 := Aside0.mk (show w.heap.size ≤ t2 by have h1 := HB.out.size; omega); clear HB BX; have HB := Aside0.mk n_; have BX := Aside0.mk m_; have B2 := Aside0.mk hbox; clear n_ m_ hg hbox hb))
  go_loopg [3, 4] l.length (fun g_ s3 s4 wq => ∃ (x : Int) (nv : Value) (K : List (Nat × Nat)), s4 = .int .i64 x ∧ s3 = nv ∧ Aside0 (0 ≤ x ∧ (g_ : Int) = l.length - x) ∧ Aside0 (LentAt w.heap.size wq nv l x.toNat 0 K) ∧ Aside0 (wq.heap[t]? = some (.cells #[.int .i64 st, .int .i64 n, .slice A l.length c, .int .i64 rt] 24 (0, 0))) ∧ Aside0 (wq.heap[t2]? = some (.cells #[.int .i64 0, .int .i64 0, .slice none 0 0, .int .i64 0] 24 (0, 0))) ∧ Aside0 (Below w.heap.size w wq))
  case atStart => exact ⟨0, _, [], rfl, rfl, ⟨by omega, by omega⟩, ⟨LentAt.start _ _ _⟩, BX, B2, HB⟩
  case round =>
    obtain ⟨x, nv, K0, rfl, rfl, HX, H, BX, B2, HB⟩ := hrel
    obtain ⟨gc0, gc1, gc2, gc3⟩ := four BX.out
    by_cases q : x < (l.length : Int)
    case pos =>
      have p0 : 0 ≤ x := HX.out.1
      have w1_ : wrap64 (x + 1) = x + 1 := by have := HL.out.1; unfold wrap64; omega
      obtain ⟨ad, A1, c1, rfl, k0w, k1w, hc1, hK1⟩ := at_T49 HR.out x p0 q
      have k0_ := pw_cell_below HB.out k0w
      have k1_ := pw_cell_below HB.out k1w
      have HKK := Aside0.mk (show Kd.C (Kd.int .i64) wr A1 (rd_T49 l x).f1.length (rd_T49 l x).f1 from Kd.C_below hK1 HB.out)
      have hnd : nd l x.toNat = rd_T49 l x := rfl
      have hkl := HL.out.2 x.toNat
      rw [hnd] at hkl
      generalize rd_T49 l x = X at *
      obtain ⟨s, ks⟩ := X
      dsimp only at *
      have HND := Aside0.mk hnd
      have HKL := Aside0.mk hkl
      have HSC := Aside0.mk (show SC t ad x (.slice (some ad) l.length c) s (.slice A1 ks.length c1) wr from ⟨gc2, k0_, k1_⟩)
      obtain ⟨An, cn, rfl⟩ := own_slice H.out.row
      have W0 := Aside0.mk (And.intro k0w k1w)
      clear k0w k1w hc1 hK1 hnd hkl
      go_upto_region 8 with (first
        | ((with_reducible refine gate_builtin (b := .append) (xs := #[.tmp 14, .tmp 20]) rfl ?_); at_builtin; refine Kd.R_append_rows (Kd.int .i64) (w0 := wr) wr.heap.size rfl (.tmp 14) (.tmp 20) 47 3 (.int .i64 0) 8 rfl Tryd.underlying47 info3 rfl (by decide) (by omega) (.slice none 0 0) ([] : List Int) ks _ _ _ (fun k_ => (wr.heap.size ≤ k_)) (fun _ => False) rfl rfl (Kd.R_nil _ _ _ _ _) HKK.out (fun _ _ h => h) (fun _ h => h.elim) (fun k_ hk => hk) (Below.refl _ _) (Nat.le_refl _) (by have := HKL.out; simp; omega) ?_; intro v6 w6 ho hb hg hat; rw [List.nil_append] at ho; have HO6 := Aside0.mk ho; obtain ⟨A6, c6, rfl⟩ := Kd.R_slice ho; have HB6 := Aside0.mk hb; have SC6 := Aside0.mk (HSC.out.on hb); obtain ⟨gc2, k0_, k1_⟩ := SC6.out; clear ho hb hg hat)
        | ((with_reducible refine gate_builtin (b := .append) (xs := #[.tmp 22, .tmp 23]) rfl ?_); at_builtin; refine Kd.R_append_rows (Kd.int .i64) (w0 := wr) wr.heap.size rfl (.tmp 22) (.tmp 23) 47 3 (.int .i64 0) 8 rfl Tryd.underlying47 info3 rfl (by decide) (by omega) (.slice A6 ks.length c6) ks ([-7, -8] : List Int) _ _ _ (fun k_ => (wr.heap.size ≤ k_)) (fun _ => False) rfl rfl (Kd.R_alloc HO6.out _) (lit_c (e := 3) .i64 [-7, -8] (by decide)) (fun _ _ h => h) (fun _ h => h.elim) (fun k_ hk => Nat.le_trans (Nat.le_trans HB6.out.size (by simp)) hk) (below_alloc HB6.out _) (Nat.le_trans HB6.out.size (by simp)) (by have := HKL.out; simp; omega) ?_; intro v7 w7 ho hb hg hat; have HO7 := Aside0.mk ho; have HB7 := Aside0.mk hb; clear gc2 k0_ k1_; have SC7 := Aside0.mk (HSC.out.on hb); obtain ⟨gc2, k0_, k1_⟩ := SC7.out; clear SC6 HO6 HB6 ho hb hg hat))
      obtain ⟨g7, c7, rfl, hg7, _⟩ := Kd.R_form HO7.out (by simp)
      have hl7 : (ks ++ [-7, -8]).length = ks.length + 2 := by simp
      have ho7 : w7.ownsRow wr.heap.size 3 1 (.slice (some ⟨g7, 0, none⟩) (ks.length + 2) c7) (ks.length + 2) (nums .i64 (ks ++ [-7, -8])) := by
        have h := Kd.own_of_R HO7.out
        rw [hl7] at h
        exact h
      have HO := Aside0.mk ho7
      have HC7 := Aside0.mk (own_cap ho7)
      have HG7 := Aside0.mk hg7
      rw [hl7]
      clear ho7 hg7 HO7
      clear gc0 gc1 gc3 gc2 k0_ k1_
      have cap_ : ((ks.length : Nat) : Int) ≤ (c7 : Int) := by have := HC7.out; omega
      refine start_ (n := 20) (S := fun w' => w'.cell? ⟨t, 2, none⟩ = some (.slice (some ad) l.length c) ∧ w'.cell? (ad.add (x.toNat * 2)) = some (.int .u8 s) ∧ w'.cell? ⟨(ad.add (x.toNat * 2)).block, (ad.add (x.toNat * 2)).off + 1, none⟩ = some (.slice A1 ks.length c1)) (ds := []) #[false, false, false, false, false, false, false, false, false, false, false, false, false, false, false, false, false, false, false, false] (by kernel_rfl) rfl rfl (SC7.out) (fun hHeld => ?_)
      have hb7d := below_drew (Below.refl w7.heap.size w7)
      have HXX := Aside0.mk ((H.out.on HB7.out).on hb7d)
      have HOX := Aside0.mk (own_move (w1 := w7.drew) HO.out (fun _ _ => rfl))
      have HBX := Aside0.mk (HB.out.trans ((HB7.out.trans (mono hb7d HB7.out.size)).mono HB.out.size))
      have BXX := Aside0.mk (blk_below (blk_below BX.out HB7.out) hb7d)
      have B2X := Aside0.mk (blk_below (blk_below B2.out HB7.out) hb7d)
      have SCX := Aside0.mk (SC7.out.on hb7d)
      have HROW := Aside0.mk (show w7.drew.ownsRow w.heap.size 49 2 (.slice An x.toNat cn) x.toNat (lcells l K0 x.toNat) from by have h_ := HXX.out.row; rw [show marks2 0 = [] from rfl, List.append_nil] at h_; exact h_)
      generalize w7.drew = wx at HXX HOX HBX BXX B2X SCX HROW hHeld ⊢
      clear hb7d HB7 SC7 HO
      refine pure_ (i := 0) (N := (some 25)) (v := ?_) (a' := ?_) #[true, false, false, false, false, false, false, false, false, false, false, false, false, false, false, false, false, false, false, false] rfl rfl (by kernel_rfl) (fun _ _ _ h => h) (Or.inl ⟨by rfl, ?_⟩) ?_ ?_
      rotate_left
      · intro w'
        go_simp
        with_reducible rfl
      rotate_left
      · simp only [Act.put, List.setIfInBounds_toArray, List.set_cons_zero, List.set_cons_succ, i64_w, i32_w]
        rfl
      refine pure_ (i := 1) (N := (some 26)) (v := ?_) (a' := ?_) #[true, true, false, false, false, false, false, false, false, false, false, false, false, false, false, false, false, false, false, false] rfl rfl (by kernel_rfl) (fun _ _ _ h => h) (Or.inl ⟨by rfl, ?_⟩) ?_ ?_
      rotate_left
      · intro w'
        go_simp
        with_reducible rfl
      rotate_left
      · simp only [Act.put, List.setIfInBounds_toArray, List.set_cons_zero, List.set_cons_succ, i64_w, i32_w]
        rfl
      refine take_ (i := 2) (N := (some 27)) (v := ?_) (a' := ?_) #[true, true, true, false, false, false, false, false, false, false, false, false, false, false, false, false, false, false, false, false] rfl rfl (by kernel_rfl) (fun _ _ _ h => h) (Or.inl ⟨by rfl, ?_⟩) hHeld ?_ ?_
      rotate_left
      · rintro w' ⟨s0, s1, s2⟩
        go_simp
        with_reducible rfl
      rotate_left
      · simp only [Act.put, List.setIfInBounds_toArray, List.set_cons_zero, List.set_cons_succ, i64_w, i32_w]
        rfl
      refine pure_ (i := 3) (N := (some 28)) (v := ?_) (a' := ?_) #[true, true, true, true, false, false, false, false, false, false, false, false, false, false, false, false, false, false, false, false] rfl rfl (by kernel_rfl) (fun _ _ _ h => h) (Or.inl ⟨by rfl, ?_⟩) ?_ ?_
      rotate_left
      · intro w'
        go_simp
        with_reducible rfl
      rotate_left
      · simp only [Act.put, List.setIfInBounds_toArray, List.set_cons_zero, List.set_cons_succ, i64_w, i32_w]
        rfl
      refine pure_ (i := 4) (N := (some 29)) (v := ?_) (a' := ?_) #[true, true, true, true, true, false, false, false, false, false, false, false, false, false, false, false, false, false, false, false] rfl rfl (by kernel_rfl) (fun _ _ _ h => h) (Or.inl ⟨by rfl, ?_⟩) ?_ ?_
      rotate_left
      · intro w'
        go_simp
        with_reducible rfl
      rotate_left
      · simp only [Act.put, List.setIfInBounds_toArray, List.set_cons_zero, List.set_cons_succ, i64_w, i32_w]
        rfl
      refine pure_ (i := 5) (N := (some 30)) (v := ?_) (a' := ?_) #[true, true, true, true, true, true, false, false, false, false, false, false, false, false, false, false, false, false, false, false] rfl rfl (by kernel_rfl) (fun _ _ _ h => h) (Or.inl ⟨by rfl, ?_⟩) ?_ ?_
      rotate_left
      · intro w'
        go_simp
        with_reducible rfl
      rotate_left
      · simp only [Act.put, List.setIfInBounds_toArray, List.set_cons_zero, List.set_cons_succ, i64_w, i32_w]
        rfl
      refine take_ (i := 6) (N := (some 31)) (v := ?_) (a' := ?_) #[true, true, true, true, true, true, true, false, false, false, false, false, false, false, false, false, false, false, false, false] rfl rfl (by kernel_rfl) (fun _ _ _ h => h) (Or.inl ⟨by rfl, ?_⟩) hHeld ?_ ?_
      rotate_left
      · rintro w' ⟨s0, s1, s2⟩
        go_simp
        with_reducible rfl
      rotate_left
      · simp only [Act.put, List.setIfInBounds_toArray, List.set_cons_zero, List.set_cons_succ, i64_w, i32_w]
        rfl
      refine pure_ (i := 7) (N := (some 32)) (v := ?_) (a' := ?_) #[true, true, true, true, true, true, true, true, false, false, false, false, false, false, false, false, false, false, false, false] rfl rfl (by kernel_rfl) (fun _ _ _ h => h) (Or.inl ⟨by rfl, ?_⟩) ?_ ?_
      rotate_left
      · intro w'
        go_simp
        with_reducible rfl
      rotate_left
      · simp only [Act.put, List.setIfInBounds_toArray, List.set_cons_zero, List.set_cons_succ, i64_w, i32_w]
        rfl
      refine pure_ (i := 8) (N := (some 33)) (v := ?_) (a' := ?_) #[true, true, true, true, true, true, true, true, true, false, false, false, false, false, false, false, false, false, false, false] rfl rfl (by kernel_rfl) (fun _ _ _ h => h) (Or.inl ⟨by rfl, ?_⟩) ?_ ?_
      rotate_left
      · intro w'
        go_simp
        with_reducible rfl
      rotate_left
      · simp only [Act.put, List.setIfInBounds_toArray, List.set_cons_zero, List.set_cons_succ, i64_w, i32_w]
        rfl
      refine take_ (i := 9) (N := (some 34)) (v := ?_) (a' := ?_) #[true, true, true, true, true, true, true, true, true, true, false, false, false, false, false, false, false, false, false, false] rfl rfl (by kernel_rfl) (fun _ _ _ h => h) (Or.inl ⟨by rfl, ?_⟩) hHeld ?_ ?_
      rotate_left
      · rintro w' ⟨s0, s1, s2⟩
        go_simp
        with_reducible rfl
      rotate_left
      · simp only [Act.put, List.setIfInBounds_toArray, List.set_cons_zero, List.set_cons_succ, i64_w, i32_w]
        rfl
      refine pure_ (i := 10) (N := (some 35)) (v := ?_) (a' := ?_) #[true, true, true, true, true, true, true, true, true, true, true, false, false, false, false, false, false, false, false, false] rfl rfl (by kernel_rfl) (fun _ _ _ h => h) (Or.inl ⟨by rfl, ?_⟩) ?_ ?_
      rotate_left
      · intro w'
        go_simp
        with_reducible rfl
      rotate_left
      · simp only [Act.put, List.setIfInBounds_toArray, List.set_cons_zero, List.set_cons_succ, i64_w, i32_w]
        rfl
      refine pure_ (i := 11) (N := (some 36)) (v := ?_) (a' := ?_) #[true, true, true, true, true, true, true, true, true, true, true, true, false, false, false, false, false, false, false, false] rfl rfl (by kernel_rfl) (fun _ _ _ h => h) (Or.inl ⟨by rfl, ?_⟩) ?_ ?_
      rotate_left
      · intro w'
        go_simp
        with_reducible rfl
      rotate_left
      · simp only [Act.put, List.setIfInBounds_toArray, List.set_cons_zero, List.set_cons_succ, i64_w, i32_w]
        rfl
      refine pure_ (i := 12) (N := (some 37)) (v := ?_) (a' := ?_) #[true, true, true, true, true, true, true, true, true, true, true, true, true, false, false, false, false, false, false, false] rfl rfl (by kernel_rfl) (fun _ _ _ h => h) (Or.inl ⟨by rfl, ?_⟩) ?_ ?_
      rotate_left
      · intro w'
        go_simp
        with_reducible rfl
      rotate_left
      · simp only [Act.put, List.setIfInBounds_toArray, List.set_cons_zero, List.set_cons_succ, i64_w, i32_w]
        rfl
      refine take_ (i := 13) (N := (some 38)) (v := ?_) (a' := ?_) #[true, true, true, true, true, true, true, true, true, true, true, true, true, true, false, false, false, false, false, false] rfl rfl (by kernel_rfl) (fun _ _ _ h => h) (Or.inl ⟨by rfl, ?_⟩) hHeld ?_ ?_
      rotate_left
      · rintro w' ⟨s0, s1, s2⟩
        go_simp
        with_reducible rfl
      rotate_left
      · simp only [Act.put, List.setIfInBounds_toArray, List.set_cons_zero, List.set_cons_succ, i64_w, i32_w]
        rfl
      refine pure_ (i := 14) (N := (some 39)) (v := ?_) (a' := ?_) #[true, true, true, true, true, true, true, true, true, true, true, true, true, true, true, false, false, false, false, false] rfl rfl (by kernel_rfl) (fun _ _ _ h => h) (Or.inl ⟨by rfl, ?_⟩) ?_ ?_
      rotate_left
      · intro w'
        go_simp
        with_reducible rfl
      rotate_left
      · simp only [Act.put, List.setIfInBounds_toArray, List.set_cons_zero, List.set_cons_succ, i64_w, i32_w]
        rfl
      refine pure_ (i := 15) (N := (some 40)) (v := ?_) (a' := ?_) #[true, true, true, true, true, true, true, true, true, true, true, true, true, true, true, true, false, false, false, false] rfl rfl (by kernel_rfl) (fun _ _ _ h => h) (Or.inl ⟨by rfl, ?_⟩) ?_ ?_
      rotate_left
      · intro w'
        go_simp
        with_reducible rfl
      rotate_left
      · simp only [Act.put, List.setIfInBounds_toArray, List.set_cons_zero, List.set_cons_succ, i64_w, i32_w]
        rfl
      refine pure_ (i := 16) (N := (some 41)) (v := ?_) (a' := ?_) #[true, true, true, true, true, true, true, true, true, true, true, true, true, true, true, true, true, false, false, false] rfl rfl (by kernel_rfl) (fun _ _ _ h => h) (Or.inl ⟨by rfl, ?_⟩) ?_ ?_
      rotate_left
      · intro w'
        go_simp
        with_reducible rfl
      rotate_left
      · simp only [Act.put, List.setIfInBounds_toArray, List.set_cons_zero, List.set_cons_succ, i64_w, i32_w]
        rfl
      refine one_ (i := 17) (N := (some 42)) #[true, true, true, true, true, true, true, true, true, true, true, true, true, true, true, true, true, true, false, false] rfl rfl (by kernel_rfl) (by decide) (fun K hK => ?_)
      refine value_ (w1 := wx.alloc (.cells #[.int .u8 s, .slice (some ⟨g7, 0, none⟩) ks.length c7] 49)) (v := .slice (some ⟨wx.heap.size, 0, none⟩) 1 1) (by rfl) rfl ?_ ?_
      · go_simp
      refine hK.out _ _ (SCX.out.on ((Below.refl _ _).alloc (Nat.le_refl _) (.cells #[.int .u8 s, .slice (some ⟨g7, 0, none⟩) ks.length c7] 49))) (fun hHeld => ?_)
      clear hK K
      refine one_ (i := 18) (N := (some 43)) #[true, true, true, true, true, true, true, true, true, true, true, true, true, true, true, true, true, true, true, false] rfl rfl (by kernel_rfl) (by decide) (fun K hK => ?_)
      refine step_append_cells (w0 := w) (W := wx) w.heap.size (by rfl) (.tmp 25) (.tmp 42) 22 49 (.agg #[.int .u8 0, .slice none 0 0]) 2 32 rfl Tryd.underlying22 (by kernel_rfl) rfl (by decide) (by decide) (.slice An x.toNat cn) x.toNat (lcells l K0 x.toNat) [.int .u8 s, .slice (some ⟨g7, 0, none⟩) ks.length c7] rfl rfl rfl (by intro u hu; simp at hu; rcases hu with hu | hu; (rw [hu]; rfl); (rw [hu]; rfl)) HROW.out HBX.out HBX.out.size (by have := HL.out.1; have := HX.out; omega) ?_
      intro v1_ w4 ho_ hb_ hg_ hat_
      have H4 := Aside0.mk (HXX.out.snoc (g := g7) (c := c7) hg_ (by rw [HND.out]; exact ho_) (by rw [HND.out]; exact own_weaken HOX.out (Nat.le_trans HB.out.size (Nat.le_refl _))) (fun p hp => by
        obtain ⟨j, hj, e⟩ := List.mem_iff_getElem.1 hp
        have h1 := own_lt (H.out.kid j p.1 p.2 (by rw [List.getElem?_eq_getElem hj, e])) p.1 rfl
        have h2 := HG7.out
        omega))
      have HB4 := Aside0.mk hb_
      have X4 := Aside0.mk (blk_grown BXX.out hg_ (fun e => by obtain ⟨cs, hc⟩ := own_typed HROW.out t e.symm; rw [BXX.out] at hc; injection hc with hc; injection hc with _ hc; exact absurd hc (by decide)))
      have Y4 := Aside0.mk (blk_grown B2X.out hg_ (fun e => by obtain ⟨cs, hc⟩ := own_typed HROW.out t2 e.symm; rw [B2X.out] at hc; injection hc with hc; injection hc with _ hc; exact absurd hc (by decide)))
      have HB5 := Aside0.mk (show Below w.heap.size w w4 from hb_)
      clear ho_ hb_ hg_ hat_ HND
      refine hK.out _ _ ⟨(blk_cell X4.out 2).trans rfl, pw_cell_below HB5.out W0.out.1, pw_cell_below HB5.out W0.out.2⟩ (fun hHeld => ?_)
      clear hK K
      refine pure_ (i := 19) (N := (some 3)) (v := ?_) (a' := ?_) #[true, true, true, true, true, true, true, true, true, true, true, true, true, true, true, true, true, true, true, true] rfl rfl (by kernel_rfl) (fun _ _ _ h => h) (Or.inl ⟨by rfl, ?_⟩) ?_ ?_
      rotate_left
      · intro w'
        go_simp
        with_reducible rfl
      rotate_left
      · simp only [Act.put, List.setIfInBounds_toArray, List.set_cons_zero, List.set_cons_succ, i64_w, i32_w]
        rfl
      refine done_ (by kernel_rfl) ?_
      go_wp2
      go_roundg (l.length - (x + 1).toNat)
      case measure => go_light; have := HX.out; omega
      case rel =>
        go_light
        have e1 : (x + 1).toNat = x.toNat + 1 := by omega
        exact ⟨x + 1, _, _, by simp [w1_], rfl, ⟨by omega, by have := HX.out; omega⟩, ⟨by rw [e1]; exact H4.out⟩, X4, Y4, HB4⟩
    case neg =>
      have hx : x.toNat = l.length := by have := HX.out; omega
      rw [hx] at H
      have H1 := H
      clear H HX hx
      go_wp2
      go_loopg [3, 6] 2 (fun g_ s3 s6 wq => ∃ (y : Int) (nv : Value) (K : List (Nat × Nat)), s6 = .int .i64 y ∧ s3 = nv ∧ Aside0 (0 ≤ y ∧ (g_ : Int) = 2 - y) ∧ Aside0 (LentAt w.heap.size wq nv l l.length y.toNat K) ∧ Aside0 (wq.heap[t]? = some (.cells #[.int .i64 st, .int .i64 n, .slice A l.length c, .int .i64 rt] 24 (0, 0))) ∧ Aside0 (wq.heap[t2]? = some (.cells #[.int .i64 0, .int .i64 0, .slice none 0 0, .int .i64 0] 24 (0, 0))) ∧ Aside0 (Below w.heap.size w wq))
      case atStart => exact ⟨0, _, _, rfl, rfl, ⟨by omega, by omega⟩, H1, BX, B2, HB⟩
      case round =>
        clear H1 gc0 gc1 gc2 gc3
        obtain ⟨y, nv2, K1, rfl, rfl, HY, H, BX, B2, HB⟩ := hrel
        obtain ⟨An, cn, rfl⟩ := own_slice H.out.row
        by_cases q2 : y < 2
        case pos =>
          have p0 : 0 ≤ y := HY.out.1
          have w1_ : wrap64 (y + 1) = y + 1 := by unfold wrap64; omega
          go_wp2_with (first
            | ((with_reducible refine gate_builtin (b := .append) (xs := #[.tmp 48, .tmp 50]) rfl ?_); at_builtin; refine print_append_cells (w0 := w) (W := wr) w.heap.size rfl (.tmp 48) (.tmp 50) 22 49 (.agg #[.int .u8 0, .slice none 0 0]) 2 32 rfl Tryd.underlying22 (by kernel_rfl) rfl (by decide) (by decide) (.slice An (l.length + y.toNat) cn) (l.length + y.toNat) (lcells l K1 l.length ++ marks2 y.toNat) [.int .u8 77, .slice none 0 0] rfl rfl rfl (by intro u hu; simp at hu; rcases hu with hu | hu; (rw [hu]; rfl); (rw [hu]; rfl)) H.out.row HB.out HB.out.size (by have := HL.out.1; omega) ?_; intro v1_ w4 ho_ hb_ hg_ hat_; have H4 := Aside0.mk (H.out.mark hg_ ho_); have HB4 := Aside0.mk hb_; have X4 := Aside0.mk (blk_grown BX.out hg_ (fun e => by obtain ⟨cs, hc⟩ := own_typed H.out.row t e.symm; rw [BX.out] at hc; injection hc with hc; injection hc with _ hc; exact absurd hc (by decide))); have Y4 := Aside0.mk (blk_grown B2.out hg_ (fun e => by obtain ⟨cs, hc⟩ := own_typed H.out.row t2 e.symm; rw [B2.out] at hc; injection hc with hc; injection hc with _ hc; exact absurd hc (by decide))); clear ho_ hb_ hg_ hat_))
          go_roundg (2 - (y + 1).toNat)
          case measure => go_light; have := HY.out; omega
          case rel =>
            go_light
            have e1 : (y + 1).toNat = y.toNat + 1 := by omega
            exact ⟨y + 1, _, _, by simp [w1_], rfl, ⟨by omega, by have := HY.out; omega⟩, ⟨by rw [e1]; exact H4.out⟩, X4, Y4, HB4⟩
        case neg =>
          have hy : y.toNat = 2 := by have := HY.out; omega
          rw [hy] at H
          rw [hy]
          have hcap := own_cap H.out.row
          obtain ⟨gn, rfl⟩ : ∃ gn, An = some ⟨gn, 0, none⟩ := by
            rcases H.out.row.2 with ⟨h, h2⟩ | ⟨q, cp, cur, h, _⟩
            · omega
            · cases h
              exact ⟨q, rfl⟩
          obtain ⟨gc0, gc1, gc2, gc3⟩ := four BX.out
          obtain ⟨hc0, hc1, hc2, hc3⟩ := four B2.out
          have z0_ := blk_frozen BX.out 0
          have z1_ := blk_frozen BX.out 1
          have z2_ := blk_frozen BX.out 2
          have z3_ := blk_frozen BX.out 3
          have f0_ := blk_frozen B2.out 0
          have f1_ := blk_frozen B2.out 1
          have f2_ := blk_frozen B2.out 2
          have f3_ := blk_frozen B2.out 3
          have cap_ : ((l.length : Nat) : Int) ≤ (cn : Int) := by omega
          go_upto_region 14 with (first
            | ((with_reducible refine gate_store (t := 22) (p := 57) rfl ?_); refine store_event (t := 22) (p := 57) (v := ?vo_) (w1 := wr.setCell ⟨t, 2, none⟩ (.slice (some ⟨gn, 0, none⟩) l.length cn)) ?hgs ?hos ?hns ?hrs ?_; (case hos => rfl); (case hgs => rfl); (case hns => rfl); (case hrs => first | (go_simp; done) | (go_simp; rfl)); rintro W7 rfl; have HB1 := Aside0.mk (below_set (g := t) (j := 2) (v := .slice (some ⟨gn, 0, none⟩) l.length cn) HB.out GE1.out); have H1 := Aside0.mk (H.out.set (j := 2) (v := .slice (some ⟨gn, 0, none⟩) l.length cn) BX.out (by decide) (by decide)); have X1 := Aside0.mk (blk_put BX.out 2 (.slice (some ⟨gn, 0, none⟩) l.length cn) rfl); have Y1 := Aside0.mk (blk_far B2.out (p := ⟨t, 2, none⟩) (Ne.symm NE.out) (.slice (some ⟨gn, 0, none⟩) l.length cn)); clear H BX B2 HB gc0 gc1 gc2 gc3 hc0 hc1 hc2 hc3 z0_ z1_ z2_ z3_ f0_ f1_ f2_ f3_))
          generalize wr.setCell ⟨t, 2, none⟩ (.slice (some ⟨gn, 0, none⟩) l.length cn) = W6 at *
          obtain ⟨gc0, gc1, gc2, gc3⟩ := four X1.out
          obtain ⟨hc0, hc1, hc2, hc3⟩ := four Y1.out
          have f0_ := blk_frozen Y1.out 0
          have f1_ := blk_frozen Y1.out 1
          have f2_ := blk_frozen Y1.out 2
          have f3_ := blk_frozen Y1.out 3
          go_wp2
          refine bodyPost_ret (results_cell_row rfl _ _ _ 24 #[.int .i64 st, .int .i64 n, .slice (some ⟨gn, 0, none⟩) l.length cn, .int .i64 rt] (0, 0) _ rfl ?_ hu rfl (by kernel_rfl)) rfl ⟨gn, cn, K1, rfl, ?_, ?_⟩
          · exact blk_put (blk_put (blk_put (blk_put Y1.out 0 _ rfl) 1 _ rfl) 2 _ rfl) 3 _ rfl
          · have b0 := blk_put Y1.out 0 (.int .i64 st) rfl
            have b1 := blk_put b0 1 (.int .i64 n) rfl
            have b2 := blk_put b1 2 (.slice (some ⟨gn, 0, none⟩) l.length cn) rfl
            exact (((H1.out.set Y1.out (by decide) (by decide)).set b0 (by decide) (by decide)).set b1 (by decide) (by decide)).set b2 (by decide) (by decide)
          · exact below_set (below_set (below_set (below_set HB1.out GE2.out) GE2.out) GE2.out) GE2.out
end Go.Proofs.YtbnonnogkgbpiaaDoor.LentT
end
section
namespace Go.Proofs.YtbnonnogkgbpiaaDoor.LentT
open Go Go.RowKit Go.Proofs.YtbnonnogkgbpiaaDoorW.PrintWords Go.Proofs.YtbnonnogkgbpiaaDoorW.PrintLast Go.Proofs.YtbnonnogkgbpiaaDoorW.PrintMore Go.Proofs.YtbnonnogkgbpiaaDoor.PT Go.Proofs.YtbnonnogkgbpiaaDoor.TreePlain Go.Proofs.YtbnonnogkgbpiaaDoor.TreeText
set_option linter.unusedVariables false
set_option linter.unusedSimpArgs false
def wipeX (st : Int) (x : S49) : S49 :=
  if x.f1.length > 1 then ⟨x.f0, (x.f1.set 0 (rd x.f1 ((x.f1.length : Int) - 1))).set (x.f1.length - 1) (rd x.f1 0)⟩
  else if x.f1.length = 0 ∧ st > 1 then ⟨Int.tmod (x.f0 + 1) st % 256, x.f1⟩ else x
def wl (st : Int) (l : List S49) : Nat → List S49
  | 0 => l
  | i + 1 => (wl st l i).set i (wipeX st (nd l i))
theorem wl_len (st : Int) (l : List S49) : ∀ i, (wl st l i).length = l.length
  | 0 => rfl
  | i + 1 => by
    show ((wl st l i).set i _).length = _
    rw [List.length_set, wl_len st l i]
theorem nd_set (l : List S49) (i : Nat) (x : S49) (hi : i < l.length) (j : Nat) : nd (l.set i x) j = if j = i then x else nd l j := by
  unfold nd
  rw [List.getD_eq_getElem?_getD, List.getElem?_set]
  by_cases e : j = i
  · subst e
    rw [if_pos rfl, if_pos hi, if_pos rfl]
    rfl
  · rw [if_neg (fun e2 => e e2.symm), if_neg e, ← List.getD_eq_getElem?_getD]
theorem wl_far (st : Int) (l : List S49) : ∀ i, i ≤ l.length → ∀ j, i ≤ j → nd (wl st l i) j = nd l j
  | 0, _, j, _ => rfl
  | i + 1, hi, j, hj => by
    show nd ((wl st l i).set i _) j = _
    rw [nd_set _ _ _ (by rw [wl_len]; omega), if_neg (by omega)]
    exact wl_far st l i (by omega) j (by omega)
theorem wipeX_len (st : Int) (x : S49) : (wipeX st x).f1.length = x.f1.length := by
  unfold wipeX
  split
  · simp
  · split <;> rfl
theorem wl_kids (st : Int) (l : List S49) : ∀ i, i ≤ l.length → ∀ j, (nd (wl st l i) j).f1.length = (nd l j).f1.length
  | 0, _, j => rfl
  | i + 1, hi, j => by
    show (nd ((wl st l i).set i _) j).f1.length = _
    rw [nd_set _ _ _ (by rw [wl_len]; omega)]
    split
    · rename_i e
      subst e
      exact wipeX_len st _
    · exact wl_kids st l i (by omega) j
theorem wipeX_byte (st : Int) (x : S49) (h : 0 ≤ x.f0 ∧ x.f0 ≤ 255) : 0 ≤ (wipeX st x).f0 ∧ (wipeX st x).f0 ≤ 255 := by
  unfold wipeX
  split
  · exact h
  · split
    · show 0 ≤ _ % 256 ∧ _ % 256 ≤ 255
      omega
    · exact h
theorem wl_bytes (st : Int) (l : List S49) (h : Bytes l) : ∀ i, i ≤ l.length → Bytes (wl st l i)
  | 0, _ => h
  | i + 1, hi => by
    intro x hx
    rcases List.mem_or_eq_of_mem_set hx with hx | rfl
    · exact wl_bytes st l h i (by omega) x hx
    · exact wipeX_byte st _ (nd_bytes h i)
theorem lcells_eq (l l' : List S49) (K : List (Nat × Nat)) : ∀ i, (∀ j, j < i → (nd l j).f0 = (nd l' j).f0 ∧ (nd l j).f1.length = (nd l' j).f1.length) → lcells l K i = lcells l' K i
  | 0, _ => rfl
  | i + 1, h => by
    show _ ++ [_, _] = _ ++ [_, _]
    rw [lcells_eq l l' K i (fun j hj => h j (by omega)), (h i (by omega)).1, (h i (by omega)).2]
theorem lcells_state (l l' : List S49) (K : List (Nat × Nat)) (q : Nat) (R : List Value) : ∀ i, q < i → (∀ j, j ≠ q → (nd l j).f0 = (nd l' j).f0) → (∀ j, (nd l j).f1.length = (nd l' j).f1.length) → (lcells l K i ++ R).set (2 * q) (.int .u8 (nd l' q).f0) = lcells l' K i ++ R
  | 0, hq, _, _ => by omega
  | i + 1, hq, h0, h1 => by
    have hl := lcells_len l K i
    show ((lcells l K i ++ [_, _]) ++ R).set (2 * q) _ = (lcells l' K i ++ [_, _]) ++ R
    by_cases e : q = i
    · subst e
      rw [List.append_assoc, List.append_assoc, List.set_append_right _ _ (by omega), hl, Nat.sub_self, lcells_eq l l' K q (fun j hj => ⟨h0 j (by omega), h1 j⟩), h1 q]
      rfl
    · rw [List.append_assoc, List.append_assoc]
      rw [lcells_state l l' K q _ i (by omega) h0 h1, h0 i (fun e2 => e e2.symm), h1 i]
section
variable {B : Nat} {W : World} {nv : Value} {l : List S49} {m : Nat} {K : List (Nat × Nat)}
theorem LentAt.setKid (h : LentAt B W nv l l.length m K) {j g c q : Nat} (hj : K[j]? = some (g, c)) (hq : q < (nd l j).f1.length) (v : Int) : LentAt B (W.setCell ⟨g, q, none⟩ (.int .i64 v)) nv (l.set j ⟨(nd l j).f0, (nd l j).f1.set q v⟩) l.length m K := by
  have hjl : j < l.length := by rw [← h.len]; exact (List.getElem?_eq_some_iff.1 hj).1
  obtain ⟨cs, hcs⟩ := own_typed (h.kid j g c hj) g rfl
  have far : ∀ k, k ≠ g → (W.setCell ⟨g, q, none⟩ (.int .i64 v)).heap[k]? = W.heap[k]? := fun k hk => Below.heap_setCell _ ⟨g, q, none⟩ _ _ hk
  refine ⟨?_, h.len, fun j' g' c' hj' => ?_, h.ap⟩
  · rw [← lcells_eq l (l.set j ⟨(nd l j).f0, (nd l j).f1.set q v⟩) K l.length (fun j' _ => by
      rw [nd_set _ _ _ hjl]
      split
      · rename_i e
        subst e
        exact ⟨rfl, by simp⟩
      · exact ⟨rfl, rfl⟩)]
    exact own_move h.row (fun k hk => far k (fun e => by
      obtain ⟨cs', hc'⟩ := own_typed h.row k hk
      rw [e, hcs] at hc'
      injection hc' with hc'
      injection hc' with _ hc'
      exact absurd hc' (by decide)))
  · rw [nd_set _ _ _ hjl]
    by_cases e : j' = j
    · subst e
      obtain ⟨rfl, rfl⟩ : g = g' ∧ c = c' := by
        rw [hj] at hj'
        simpa using hj'
      rw [if_pos rfl]
      have hs := (own_store (h.kid j' g c hj) (q : Int) v).1
      rw [Int.toNat_natCast, List.set_append_left _ _ hq] at hs
      show World.ownsRow _ B _ 1 (.slice (some ⟨g, 0, none⟩) (((nd l j').f1.set q v).length + 2) c) (((nd l j').f1.set q v).length + 2) (nums .i64 ((nd l j').f1.set q v ++ [-7, -8]))
      rw [List.length_set]
      exact hs
    · rw [if_neg e]
      exact own_move (h.kid j' g' c' hj') (fun k hk => far k (fun e2 => by
        obtain rfl : g' = k := by simpa [Value.ownBlock] using hk
        exact h.ap j' j (g', c') (g, c) e hj' hj e2))
theorem LentAt.setState {gn cn : Nat} (h : LentAt B W (.slice (some ⟨gn, 0, none⟩) (l.length + m) cn) l l.length m K) {j : Nat} (hj : j < l.length) (s : Int) : LentAt B (W.setCell ⟨gn, 2 * j, none⟩ (.int .u8 s)) (.slice (some ⟨gn, 0, none⟩) (l.length + m) cn) (l.set j ⟨s, (nd l j).f1⟩) l.length m K := by
  obtain ⟨cs, hcs⟩ := own_typed h.row gn rfl
  have far : ∀ k, k ≠ gn → (W.setCell ⟨gn, 2 * j, none⟩ (.int .u8 s)).heap[k]? = W.heap[k]? := fun k hk => Below.heap_setCell _ ⟨gn, 2 * j, none⟩ _ _ hk
  refine ⟨?_, h.len, fun j' g' c' hj' => ?_, h.ap⟩
  · have hs := (h.row.stored (2 * j) (.int .u8 s)).1
    have he := lcells_state l (l.set j ⟨s, (nd l j).f1⟩) K j (marks2 m) l.length hj (fun j' hne => by rw [nd_set _ _ _ hj, if_neg hne]) (fun j' => by
      rw [nd_set _ _ _ hj]
      split
      · rename_i e
        subst e
        rfl
      · rfl)
    rw [nd_set _ _ _ hj, if_pos rfl] at he
    rw [he] at hs
    exact hs
  · have hk : W.ownsRow B 3 1 (.slice (some ⟨g', 0, none⟩) ((nd (l.set j ⟨s, (nd l j).f1⟩) j').f1.length + 2) c') ((nd (l.set j ⟨s, (nd l j).f1⟩) j').f1.length + 2) (nums .i64 ((nd (l.set j ⟨s, (nd l j).f1⟩) j').f1 ++ [-7, -8])) := by
      rw [nd_set _ _ _ hj]
      split
      · rename_i e
        subst e
        exact h.kid j' g' c' hj'
      · exact h.kid j' g' c' hj'
    exact own_move hk (fun k hk' => far k (fun e => by
      obtain ⟨cs', hc'⟩ := own_typed (h.kid j' g' c' hj') k hk'
      rw [e, hcs] at hc'
      injection hc' with hc'
      injection hc' with _ hc'
      exact absurd hc' (by decide)))
end
def Kq (W W' : World) : Prop := ∀ (k : Nat) (cs : Array Value) (ty : TypeId) (fz : Nat × Nat), W.heap[k]? = some (.cells cs ty fz) → ty ≠ 49 → ty ≠ 3 → W'.heap[k]? = some (.cells cs ty fz)
theorem Kq.refl (W : World) : Kq W W := fun _ _ _ _ h _ _ => h
theorem Kq.trans {W W1 W2 : World} (h : Kq W W1) (g : Kq W1 W2) : Kq W W2 := fun k cs ty fz hk a b => g k cs ty fz (h k cs ty fz hk a b) a b
theorem Kq.below {W W' : World} (hb : Below W.heap.size W W') : Kq W W' := fun k cs ty fz h _ _ => (hb.block k (blk_lt h)).trans h
theorem Kq.set {W : World} {p j : Nat} {v : Value} {cs : Array Value} {t : TypeId} {f : Nat × Nat} (h : W.heap[p]? = some (.cells cs t f)) (ht : t = 49 ∨ t = 3) : Kq W (W.setCell ⟨p, j, none⟩ v) := by
  intro q cs' t' f' hk a b
  refine (Below.heap_setCell _ ⟨p, j, none⟩ _ _ (fun e => ?_)).trans hk
  rw [show q = p from e, h] at hk
  injection hk with hk
  injection hk with _ hk
  subst hk
  rcases ht with h0 | h0
  · exact a h0
  · exact b h0
theorem Kq.box {W W' : World} (h : Kq W W') {k : Nat} {cs : Array Value} {ty : TypeId} {fz : Nat × Nat} (hx : W.heap[k]? = some (.cells cs ty fz)) (h1 : ty ≠ 49) (h2 : ty ≠ 3) : W'.heap[k]? = some (.cells cs ty fz) := h k cs ty fz hx h1 h2
end Go.Proofs.YtbnonnogkgbpiaaDoor.LentT
end
section
namespace Go.Proofs.YtbnonnogkgbpiaaDoor.TreePlain
open Go Go.RowKit Go.Proofs.YtbnonnogkgbpiaaDoorW.PrintWords Go.Proofs.YtbnonnogkgbpiaaDoorW.PrintLast Go.Proofs.YtbnonnogkgbpiaaDoorW.PrintMore Go.Proofs.YtbnonnogkgbpiaaDoor.PT
set_option linter.unusedVariables false
set_option linter.unusedSimpArgs false
theorem leo_add {α : Type} (f : Nat → Option α) (hm : ∀ m, LeO (f m) (f (m + 1))) (k : Nat) (r : α) (h : f k = some r) : ∀ j, f (k + j) = some r
  | 0 => h
  | j + 1 => hm (k + j) r (leo_add f hm k r h j)
instance eqS49 : DecidableEq S49 := fun a b => decidable_of_iff (a.f0 = b.f0 ∧ a.f1 = b.f1) ⟨fun h => by cases a; cases b; simp at h; simp [h], fun h => by rw [h]; exact ⟨rfl, rfl⟩⟩
theorem rd_nat {l : List Int} {i : Nat} (h : i < l.length) : rd l (i : Int) = l[i] := by
  unfold rd
  rw [Int.toNat_natCast, List.getD_eq_getElem?_getD, List.getElem?_eq_getElem h]
  rfl
theorem l0_ints (a b : List Int) (hl : a.length = b.length) (hs : a.length ≤ 4611686018427387904) : ∀ (d i : Nat), i + d = a.length → (∀ j (h : j < a.length), j < i → a[j] = b[j]'(hl ▸ h)) → ∃ k, vivariumref11_ints.l0 k a b i = some (decide (a = b)) := by
  intro d
  induction d with
  | zero =>
    intro i hi hall
    refine ⟨0 + 1, ?_⟩
    rw [vivariumref11_ints.l0, if_neg (by omega), decide_eq_true (List.ext_getElem hl (fun j h1 h2 => hall j h1 (by omega)))]
  | succ d ih =>
    intro i hi hall
    have hlt : i < a.length := by omega
    have hlt2 : i < b.length := by omega
    have q1 : (i : Int) < a.length := by omega
    have q2 : (i : Int) < b.length := by omega
    have q3 : (0 : Int) ≤ i := by omega
    have e1 := rd_nat hlt
    have e2 := rd_nat hlt2
    have hw : wrap64 ((i : Int) + 1) = ((i + 1 : Nat) : Int) := by unfold wrap64; omega
    by_cases c : a[i] = b[i]
    · obtain ⟨k, hk⟩ := ih (i + 1) (by omega) (fun j h hj => by
        rcases Nat.lt_or_ge j i with h' | h'
        · exact hall j h h'
        · have : j = i := by omega
          subst this
          exact c)
      refine ⟨k + 1, ?_⟩
      rw [vivariumref11_ints.l0, if_pos q1, if_pos q3, if_pos q2, e1, e2, if_pos c, hw]
      exact hk
    · refine ⟨0 + 1, ?_⟩
      rw [vivariumref11_ints.l0, if_pos q1, if_pos q3, if_pos q2, e1, e2, if_neg c, decide_eq_false (fun e => by subst e; exact c rfl)]
theorem ints_is (a b : List Int) (hs : a.length ≤ 4611686018427387904) : ∃ k, vivariumref11_ints.f k a b = some (decide (a = b)) := by
  by_cases hl : a.length = b.length
  · obtain ⟨k, hk⟩ := l0_ints a b hl hs a.length 0 (by omega) (fun j h hj => by omega)
    refine ⟨k, ?_⟩
    unfold vivariumref11_ints.f
    rw [if_pos (by omega)]
    exact hk
  · refine ⟨0, ?_⟩
    unfold vivariumref11_ints.f
    rw [if_neg (by omega), decide_eq_false (fun e => hl (by rw [e]))]
def alikeP (s n : Int) (l : List S49) (r : Int) (s' n' : Int) (l' : List S49) (r' : Int) : Bool := decide (s = s' ∧ n = n' ∧ r = r' ∧ l = l')
section
variable {s n r s' n' r' : Int}
theorem rd49_nat {l : List S49} {i : Nat} (h : i < l.length) : rd_T49 l (i : Int) = l[i] := by
  unfold rd_T49
  rw [Int.toNat_natCast, List.getD_eq_getElem?_getD, List.getElem?_eq_getElem h]
  rfl
theorem l0_alike (l l' : List S49) (hl : l.length = l'.length) (hs : l.length ≤ 4611686018427387904) (hk : ∀ x ∈ l, x.f1.length ≤ 4611686018427387904) : ∀ (d i : Nat), i + d = l.length → (∀ j (h : j < l.length), j < i → l[j] = l'[j]'(hl ▸ h)) → ∃ k, vivariumref11_Alike.l0 k i s n l r s' n' l' r' = some (decide (l = l')) := by
  intro d
  induction d with
  | zero =>
    intro i hi hall
    refine ⟨0 + 1, ?_⟩
    rw [vivariumref11_Alike.l0, if_neg (by omega), decide_eq_true (List.ext_getElem hl (fun j h1 h2 => hall j h1 (by omega)))]
  | succ d ih =>
    intro i hi hall
    have hlt : i < l.length := by omega
    have hlt2 : i < l'.length := by omega
    have q1 : (i : Int) < l.length := by omega
    have q2 : (i : Int) < l'.length := by omega
    have q3 : (0 : Int) ≤ i := by omega
    have e1 := rd49_nat hlt
    have e2 := rd49_nat hlt2
    have hw : wrap64 ((i : Int) + 1) = ((i + 1 : Nat) : Int) := by unfold wrap64; omega
    by_cases c : l[i].f0 = l'[i].f0
    · obtain ⟨k1, hk1⟩ := ints_is l[i].f1 l'[i].f1 (hk _ (List.getElem_mem _))
      by_cases c2 : l[i].f1 = l'[i].f1
      · obtain ⟨k, hk⟩ := ih (i + 1) (by omega) (fun j h hj => by
          rcases Nat.lt_or_ge j i with h' | h'
          · exact hall j h h'
          · have : j = i := by omega
            subst this
            generalize l[j] = x at c c2
            generalize l'[j] = y at c c2
            obtain ⟨x0, x1⟩ := x
            obtain ⟨y0, y1⟩ := y
            simp at c c2
            rw [c, c2])
        refine ⟨(k1 + k) + 1, ?_⟩
        have hka := leo_add (fun m => vivariumref11_ints.f m l[i].f1 l'[i].f1) (fun m => vivariumref11_ints.mono _ _ m) k1 _ hk1 k
        have hkb := leo_add (fun m => vivariumref11_Alike.l0 m ((i + 1 : Nat) : Int) s n l r s' n' l' r') (fun m => (vivariumref11_Alike.mono_l m).2 _ _ _ _ _ _ _ _ _) k _ hk k1
        rw [vivariumref11_Alike.l0, if_pos q1, if_pos q3, if_pos q2, e1, e2, if_pos c]
        rw [hka, Option.bind_some, if_pos (by rw [decide_eq_true c2]), hw, Nat.add_comm k1 k]
        exact hkb
      · refine ⟨k1 + 1, ?_⟩
        rw [vivariumref11_Alike.l0, if_pos q1, if_pos q3, if_pos q2, e1, e2, if_pos c, hk1, Option.bind_some, if_neg (by rw [decide_eq_false c2]; decide), decide_eq_false (fun e => by subst e; exact c2 rfl)]
    · refine ⟨0 + 1, ?_⟩
      rw [vivariumref11_Alike.l0, if_pos q1, if_pos q3, if_pos q2, e1, e2, if_neg c, decide_eq_false (fun e => by subst e; exact c rfl)]
theorem alike_is (l l' : List S49) (hs : l.length ≤ 4611686018427387904) (hk : ∀ x ∈ l, x.f1.length ≤ 4611686018427387904) : ∃ k, vivariumref11_Alike.f k s n l r s' n' l' r' = some (alikeP s n l r s' n' l' r') := by
  unfold alikeP
  have j0 : ∀ k, vivariumref11_Alike.j0 (k + 1) true s n l r s' n' l' r' = some false := fun k => by rw [vivariumref11_Alike.j0, if_pos rfl]
  by_cases c1 : s = s'
  · by_cases c2 : n = n'
    · by_cases c3 : r = r'
      · by_cases hl : l.length = l'.length
        · obtain ⟨k, hk⟩ := l0_alike (s := s) (n := n) (r := r) (s' := s') (n' := n') (r' := r') l l' hl hs hk l.length 0 (by omega) (fun j h hj => by omega)
          refine ⟨k + 1, ?_⟩
          unfold vivariumref11_Alike.f
          rw [if_pos c1, if_pos c2, if_pos c3, vivariumref11_Alike.j0, if_neg (by simp [hl])]
          rw [show ((0 : Nat) : Int) = 0 from rfl] at hk
          rw [hk]
          congr 1
          simp [c1, c2, c3]
        · refine ⟨0 + 1, ?_⟩
          unfold vivariumref11_Alike.f
          rw [if_pos c1, if_pos c2, if_pos c3, show ((l.length : Int) != (l'.length : Int)) = true by simp; omega, j0, decide_eq_false (fun e => hl (by rw [e.2.2.2]))]
      · refine ⟨0 + 1, ?_⟩
        unfold vivariumref11_Alike.f
        rw [if_pos c1, if_pos c2, if_neg c3, j0, decide_eq_false (fun e => c3 e.2.2.1)]
    · refine ⟨0 + 1, ?_⟩
      unfold vivariumref11_Alike.f
      rw [if_pos c1, if_neg c2, j0, decide_eq_false (fun e => c2 e.2.1)]
  · refine ⟨0 + 1, ?_⟩
    unfold vivariumref11_Alike.f
    rw [if_neg c1, j0, decide_eq_false (fun e => c1 e.1)]
end
end Go.Proofs.YtbnonnogkgbpiaaDoor.TreePlain
end
section
namespace Go.Proofs.YtbnonnogkgbpiaaDoor.LentT
open Go Go.RowKit Go.Proofs.YtbnonnogkgbpiaaDoorW.PrintWords Go.Proofs.YtbnonnogkgbpiaaDoorW.PrintLast Go.Proofs.YtbnonnogkgbpiaaDoorW.PrintMore Go.Proofs.YtbnonnogkgbpiaaDoor.PT Go.Proofs.YtbnonnogkgbpiaaDoor.TreePlain Go.Proofs.YtbnonnogkgbpiaaDoor.TreeText
set_option linter.unusedVariables false
set_option linter.unusedSimpArgs false
section
variable {B : Nat} {W : World} {l : List S49} {K : List (Nat × Nat)} {gn cn : Nat}
theorem LentAt.marks (h : LentAt B W (.slice (some ⟨gn, 0, none⟩) (l.length + 2) cn) l l.length 2 K) : W.cell? ⟨gn, l.length * 2, none⟩ = some (.int .u8 77) ∧ W.cell? ⟨gn, (l.length + 1) * 2, none⟩ = some (.int .u8 77) := by
  have hl := lcells_len l K l.length
  have h1 := h.row.cellAt (l.length * 2) (by omega)
  have h2 := h.row.cellAt ((l.length + 1) * 2) (by omega)
  rw [List.getElem?_append_right (by omega), hl] at h1 h2
  rw [show l.length * 2 - 2 * l.length = 0 by omega] at h1
  rw [show (l.length + 1) * 2 - 2 * l.length = 2 by omega] at h2
  exact ⟨h1, h2⟩
theorem LentAt.node (h : LentAt B W (.slice (some ⟨gn, 0, none⟩) (l.length + 2) cn) l l.length 2 K) (j : Nat) (hj : j < l.length) : ∃ g c, K[j]? = some (g, c) ∧ W.cell? ⟨gn, j * 2, none⟩ = some (.int .u8 (nd l j).f0) ∧ W.cell? ⟨gn, j * 2 + 1, none⟩ = some (.slice (some ⟨g, 0, none⟩) (nd l j).f1.length c) ∧ (nd l j).f1.length + 2 ≤ c ∧ W.cell? ⟨g, (nd l j).f1.length, none⟩ = some (.int .i64 (-7)) ∧ W.cell? ⟨g, (nd l j).f1.length + 1, none⟩ = some (.int .i64 (-8)) := by
  have hjK : j < K.length := by rw [h.len]; exact hj
  obtain ⟨⟨g, c⟩, hk⟩ : ∃ p, K[j]? = some p := ⟨_, List.getElem?_eq_getElem hjK⟩
  have hkd : K.getD j (0, 0) = (g, c) := by rw [List.getD_eq_getElem?_getD, hk]; rfl
  have ho := h.kid j _ _ hk
  obtain ⟨q1, q2⟩ := lcells_at l K l.length j (marks2 2) hj
  rw [hkd] at q2
  have c1 := h.row.cellAt (2 * j) (by omega)
  have c2 := h.row.cellAt (2 * j + 1) (by omega)
  rw [q1] at c1
  rw [q2] at c2
  have d1 := ho.cellAt (nd l j).f1.length (by omega)
  have d2 := ho.cellAt ((nd l j).f1.length + 1) (by omega)
  refine ⟨g, c, hk, by rw [Nat.mul_comm]; exact c1, by rw [Nat.mul_comm]; exact c2, own_cap ho, ?_, ?_⟩
  · rw [d1]
    simp [nums]
  · rw [d2]
    simp [nums]
end
theorem wrap_small (x : Int) (h0 : 0 ≤ x) (h1 : x ≤ 4000000) : wrap64 x = x := by
  unfold wrap64
  omega
theorem alike_same (st n : Int) (l : List S49) (rt : Int) (hs : l.length ≤ 2000000) (hk : ∀ j, (nd l j).f1.length ≤ 2000000) : ∃ k, vivariumref11_Alike.f k st n l rt st n l rt = some true := by
  obtain ⟨k, hk⟩ := alike_is (s := st) (n := n) (r := rt) (s' := st) (n' := n) (r' := rt) l l (by omega) (fun x hx => by
    obtain ⟨j, hj, rfl⟩ := List.mem_iff_getElem.1 hx
    have := hk j
    unfold nd at this
    rw [List.getD_eq_getElem?_getD, List.getElem?_eq_getElem hj] at this
    simp at this
    omega)
  exact ⟨k, by rw [hk]; simp [alikeP]⟩
set_option maxHeartbeats 16000000 in
set_option maxRecDepth 100000 in
theorem kept_calls (B : Nat) (st n : Int) (A : Option Addr) (c : Nat) (l : List S49) (rt : Int) (gn cn : Nat) (K : List (Nat × Nat)) (w : World) (hL : LentAt B w (.slice (some ⟨gn, 0, none⟩) (l.length + 2) cn) l l.length 2 K) (hr : Kd.C k49 w A l.length l) (hc : l.length ≤ c) (hl : l.length ≤ 2000000) (hk : ∀ j, (nd l j).f1.length ≤ 2000000) :
    Calls Tryd.prog 37 #[.agg #[.int .i64 st, .int .i64 n, .slice (some ⟨gn, 0, none⟩) l.length cn, .int .i64 rt], .agg #[.int .i64 st, .int .i64 n, .slice A l.length c, .int .i64 rt]] w fun e w' => e = .returned (.bool true) ∧ Below w.heap.size w w' := by
  have hu := Tryd.underlying24
  obtain ⟨ka, hka⟩ := alike_same st n l rt hl hk
  have hcap : l.length + 2 ≤ cn := own_cap hL.row
  have AK := Aside0.mk (fun (W : World) (hW : Below w.heap.size w W) => vivariumref11_Alike.calls ka st n (some ⟨gn, 0, none⟩) cn l rt st n A c l rt true W (Kd.C_below (hL.reads (by omega)) hW) (by omega) (Kd.C_below hr hW) hc hka)
  have HL := Aside0.mk hL
  have HR := Aside0.mk hr
  have HC := Aside0.mk hc
  have HS := Aside0.mk (And.intro hl hk)
  have HB := Aside0.mk (Below.refl w.heap.size w)
  have cap_ : ((l.length : Nat) : Int) + 2 ≤ (cn : Int) := by omega
  have w0_ := wrap_small ((l.length : Int) + 2) (by omega) (by omega)
  have w00_ := wrap_small ((l.length : Int) + 1) (by omega) (by omega)
  clear hL hr hc hl hk hka hcap
  go_enter Tryd.func37, Tryd.ntmps37
  go_upto_region 6 with (first
    | ((with_reducible refine gate_dst (N := 2) rfl ?_); refine box_event ?hg (N := 2) ?hd (cs := #[.int .i64 st, .int .i64 n, .slice (some ⟨gn, 0, none⟩) l.length cn, .int .i64 rt]) (t := 24) ?hr ?_; (case hd => rfl); (case hg => rfl); (case hr => first | (go_simp; done) | (go_simp; rfl)); intro t hg W9 hbox hb; have n_ := below_step HB.out hb; clear HB; have HB := Aside0.mk n_; have BX := Aside0.mk hbox; clear n_ hg hbox hb)
    | ((with_reducible refine gate_dst (N := 3) rfl ?_); refine box_event ?hg2 (N := 3) ?hd2 (cs := #[.int .i64 st, .int .i64 n, .slice A l.length c, .int .i64 rt]) (t := 24) ?hr2 ?_; (case hd2 => rfl); (case hg2 => rfl); (case hr2 => first | (go_simp; done) | (go_simp; rfl)); intro t2 hg W8 hbox hb; have n_ := below_step HB.out hb; have m_ := blk_below BX.out hb; clear HB BX; have HB := Aside0.mk n_; have BX := Aside0.mk m_; have B2 := Aside0.mk hbox; obtain ⟨gc0, gc1, gc2, gc3⟩ := four m_; obtain ⟨hc0, hc1, hc2, hc3⟩ := four hbox; clear n_ m_ hg hbox hb)
    | (go_at_call 28; (with_reducible refine (AK.out _ HB.out).mono ?_); rintro e_ W7 ⟨rfl, hb⟩; have n_ := below_step HB.out hb; have m_ := blk_below BX.out hb; have p_ := blk_below B2.out hb; clear AK HB BX B2 gc0 gc1 gc2 gc3 hc0 hc1 hc2 hc3; have HB := Aside0.mk n_; have BX := Aside0.mk m_; have B2 := Aside0.mk p_; obtain ⟨gc0, gc1, gc2, gc3⟩ := four m_; obtain ⟨hc0, hc1, hc2, hc3⟩ := four p_; clear n_ m_ p_ hb))
  have hm := (HL.out.on HB.out).marks
  obtain ⟨m0_, m1_⟩ := hm
  go_wp2
  clear m0_ m1_ gc0 gc1 gc2 gc3 hc0 hc1 hc2 hc3
  go_loopg [8] l.length (fun g_ s8 wq => ∃ (x : Int), s8 = .int .i64 x ∧ Aside0 (0 ≤ x ∧ (g_ : Int) = l.length - x) ∧ Aside0 (wq.heap[t]? = some (.cells #[.int .i64 st, .int .i64 n, .slice (some ⟨gn, 0, none⟩) l.length cn, .int .i64 rt] 24 (0, 0))) ∧ Aside0 (wq.heap[t2]? = some (.cells #[.int .i64 st, .int .i64 n, .slice A l.length c, .int .i64 rt] 24 (0, 0))) ∧ Aside0 (Below w.heap.size w wq))
  case atStart => exact ⟨0, rfl, ⟨by omega, by omega⟩, BX, B2, HB⟩
  case round =>
    clear BX B2 HB
    obtain ⟨x, rfl, HX, BX, B2, HB⟩ := hrel
    obtain ⟨gc0, gc1, gc2, gc3⟩ := four BX.out
    obtain ⟨hc0, hc1, hc2, hc3⟩ := four B2.out
    by_cases q : x < (l.length : Int)
    case neg =>
      go_wp2
      go_ret
      exact ⟨rfl, HB.out⟩
    case pos =>
      have p0 : 0 ≤ x := HX.out.1
      have w1_ := wrap_small (x + 1) (by omega) (by have := HS.out.1; omega)
      obtain ⟨ad, A1, c1, rfl, k0w, k1w, hc1', hK1⟩ := at_T49 HR.out x p0 q
      have k1_ := pw_cell_below HB.out k1w
      obtain ⟨g, c2, _, e0, e1, ecap, m7, m8⟩ := (HL.out.on HB.out).node x.toNat (by omega)
      have hkl := HS.out.2 x.toNat
      rw [show rd_T49 l x = nd l x.toNat from rfl] at k1_
      generalize nd l x.toNat = X at *
      obtain ⟨s, ks⟩ := X
      dsimp only at *
      have cap2_ : ((ks.length : Nat) : Int) + 2 ≤ (c2 : Int) := by omega
      have w2_ := wrap_small ((ks.length : Int) + 2) (by clear cap2_ k1_ e0 e1 m7 m8 k0w k1w; omega) (by clear cap2_ k1_ e0 e1 m7 m8 k0w k1w; omega)
      have w3_ := wrap_small ((ks.length : Int) + 1) (by clear w2_ cap2_ k1_ e0 e1 m7 m8 k0w k1w; omega) (by clear w2_ cap2_ k1_ e0 e1 m7 m8 k0w k1w; omega)
      clear k0w k1w hc1' hK1 hkl
      go_wp2
      go_roundg (l.length - (x + 1).toNat)
      case measure => go_light; have := HX.out; omega
      case rel =>
        go_light
        exact ⟨x + 1, by simp [w1_], ⟨by omega, by have := HX.out; omega⟩, BX, B2, HB⟩
end Go.Proofs.YtbnonnogkgbpiaaDoor.LentT
end
section
namespace Go.Proofs.YtbnonnogkgbpiaaDoor.LentT
open Go Go.RowKit Go.Proofs.YtbnonnogkgbpiaaDoorW.PrintWords Go.Proofs.YtbnonnogkgbpiaaDoorW.PrintLast Go.Proofs.YtbnonnogkgbpiaaDoorW.PrintMore Go.Proofs.YtbnonnogkgbpiaaDoor.PT Go.Proofs.YtbnonnogkgbpiaaDoor.TreePlain Go.Proofs.YtbnonnogkgbpiaaDoor.TreeText
set_option linter.unusedVariables false
set_option linter.unusedSimpArgs false
theorem LentAt.kidcell {B : Nat} {W : World} {nv : Value} {l : List S49} {i m : Nat} {K : List (Nat × Nat)} (h : LentAt B W nv l i m K) {j g c : Nat} (hj : K[j]? = some (g, c)) {q : Nat} (hq : q < (nd l j).f1.length) : W.cell? ⟨g, q, none⟩ = some (.int .i64 (rd (nd l j).f1 q)) ∧ W.frozen? ⟨g, q, none⟩ = false := by
  have h1 := own_at (h.kid j g c hj) (q : Int) (by omega) (by omega)
  rw [Int.toNat_natCast] at h1
  have e : rd ((nd l j).f1 ++ [-7, -8]) (q : Int) = rd (nd l j).f1 (q : Int) := by
    unfold rd
    rw [Int.toNat_natCast, List.getD_eq_getElem?_getD, List.getD_eq_getElem?_getD, List.getElem?_append_left hq]
  rw [e] at h1
  exact h1
theorem wipe_state (st s : Int) (ks : List Int) (h1 : ks.length = 0) (h2 : st > 1) : wipeX st ⟨s, ks⟩ = ⟨Int.tmod (s + 1) st % 256, ks⟩ := by
  unfold wipeX
  rw [if_neg (by show ¬ ks.length > 1; omega), if_pos ⟨h1, h2⟩]
theorem wipe_kids (st s : Int) (ks : List Int) (h : ks.length > 1) : wipeX st ⟨s, ks⟩ = ⟨s, (ks.set 0 (rd ks ((ks.length : Int) - 1))).set (ks.length - 1) (rd ks 0)⟩ := by
  unfold wipeX
  rw [if_pos h]
theorem set_same (l : List S49) (j : Nat) (hj : j < l.length) : l.set j (nd l j) = l := by
  apply List.ext_getElem?
  intro q
  rw [List.getElem?_set]
  split
  · rename_i e
    subst e
    unfold nd
    rw [List.getD_eq_getElem?_getD, List.getElem?_eq_getElem hj]
    simp [hj]
  · rfl
theorem LentAt.len_eq {B : Nat} {W : World} {nv : Value} {l : List S49} {i m : Nat} {K : List (Nat × Nat)} (h : LentAt B W nv l i m K) (e : l.length = i) : LentAt B W nv l l.length m K := e ▸ h
theorem nodecell {W : World} {B : Nat} {l : List S49} {i m : Nat} {K : List (Nat × Nat)} {gn n cn : Nat} (h : LentAt B W (.slice (some ⟨gn, 0, none⟩) n cn) l i m K) (q : Nat) : W.frozen? ⟨gn, q, none⟩ = false := by
  obtain ⟨cs, hc⟩ := own_typed h.row gn rfl
  exact blk_frozen hc q
set_option maxHeartbeats 16000000 in
set_option maxRecDepth 100000 in
theorem wipe_calls (B : Nat) (st n : Int) (l : List S49) (rt : Int) (gn cn : Nat) (K : List (Nat × Nat)) (w : World) (hL : LentAt B w (.slice (some ⟨gn, 0, none⟩) (l.length + 2) cn) l l.length 2 K) (hBw : B ≤ w.heap.size) (hl : l.length ≤ 2000000) (hk : ∀ j, (nd l j).f1.length ≤ 2000000) (hy : Bytes l) :
    Calls Tryd.prog 38 #[.agg #[.int .i64 st, .int .i64 n, .slice (some ⟨gn, 0, none⟩) l.length cn, .int .i64 rt]] w fun e w' => e = .returned (.tuple #[]) ∧ LentAt B w' (.slice (some ⟨gn, 0, none⟩) (l.length + 2) cn) (wl st l l.length) l.length 2 K ∧ Below B w w' ∧ Kq w w' := by
  have hu := Tryd.underlying24
  have HL := Aside0.mk hL
  have HS := Aside0.mk (And.intro hl hk)
  have HY := Aside0.mk hy
  have HBW := Aside0.mk hBw
  clear hL hl hk hy
  go_enter Tryd.func38, Tryd.ntmps38
  go_wp2_with (first
    | ((with_reducible refine gate_dst (N := 1) rfl ?_); refine box_event ?hg (N := 1) ?hd (cs := #[.int .i64 st, .int .i64 n, .slice (some ⟨gn, 0, none⟩) l.length cn, .int .i64 rt]) (t := 24) ?hr ?_; (case hd => rfl); (case hg => rfl); (case hr => first | (go_simp; done) | (go_simp; rfl)); intro t hg W9 hbox hb; have HB := Aside0.mk (hb.mono hBw); have BX := Aside0.mk hbox; have H := Aside0.mk (HL.out.on hb); have KQ := Aside0.mk (Kq.below hb); clear HL hg hbox hb))
  go_loopg [2] l.length (fun g_ s2 wq => ∃ (x : Int), s2 = .int .i64 x ∧ Aside0 (0 ≤ x ∧ (g_ : Int) = l.length - x) ∧ Aside0 (LentAt B wq (.slice (some ⟨gn, 0, none⟩) (l.length + 2) cn) (wl st l x.toNat) l.length 2 K) ∧ Aside0 (wq.heap[t]? = some (.cells #[.int .i64 st, .int .i64 n, .slice (some ⟨gn, 0, none⟩) l.length cn, .int .i64 rt] 24 (0, 0))) ∧ Aside0 (Below B w wq) ∧ Aside0 (Kq w wq))
  case atStart => exact ⟨0, rfl, ⟨by omega, by omega⟩, H, BX, HB, KQ⟩
  case round =>
    clear H BX HB KQ
    obtain ⟨x, rfl, HX, H, BX, HB, KQ⟩ := hrel
    obtain ⟨gc0, gc1, gc2, gc3⟩ := four BX.out
    by_cases q : x < (l.length : Int)
    case neg =>
      go_wp2
      go_end0
      have hx : x.toNat = l.length := by have := HX.out; omega
      rw [hx] at H
      exact ⟨rfl, H.out, HB.out, KQ.out⟩
    case pos =>
      have p0 : 0 ≤ x := HX.out.1
      have w1_ := wrap_small (x + 1) (by omega) (by have := HS.out.1; omega)
      have hxl : x.toNat < l.length := by omega
      have hwl := wl_len st l x.toNat
      have H1 := Aside0.mk (H.out.len_eq hwl)
      have hgn : LentAt B wr (.slice (some ⟨gn, 0, none⟩) ((wl st l x.toNat).length + 2) cn) (wl st l x.toNat) (wl st l x.toNat).length 2 K := by
        have h := H1.out
        rw [hwl] at h ⊢
        exact h
      obtain ⟨g, c2, hKj, e0_, e1_, ecap, _, _⟩ := hgn.node x.toNat (by omega)
      have hfar := wl_far st l x.toNat (by omega) x.toNat (Nat.le_refl _)
      have hkc := fun q (hq : q < (nd (wl st l x.toNat) x.toNat).f1.length) => H.out.kidcell hKj hq
      have hstep : wl st l (x + 1).toNat = (wl st l x.toNat).set x.toNat (wipeX st (nd l x.toNat)) := by
        rw [show (x + 1).toNat = x.toNat + 1 by omega]
        rfl
      have hkl := HS.out.2 x.toNat
      have hby := nd_bytes HY.out x.toNat
      have hjl : x.toNat < (wl st l x.toNat).length := by omega
      rw [hfar] at e0_ e1_ ecap hkc
      generalize wl st l x.toNat = L at *
      generalize nd l x.toNat = X at *
      obtain ⟨s, ks⟩ := X
      dsimp only at *
      have f8_ := nodecell H.out (x.toNat * 2)
      have HJ := Aside0.mk (And.intro hKj (And.intro hjl (And.intro hfar hwl)))
      have HST := Aside0.mk hstep
      have HKC := Aside0.mk hkc
      clear hKj hjl hfar hwl hstep hkc hgn hxl
      by_cases c1 : (ks.length : Int) > 1
      · have hn1 : 1 ≤ ks.length := by omega
        obtain ⟨a0_, z0_⟩ := HKC.out 0 (by omega)
        obtain ⟨a1_, z1_⟩ := HKC.out (ks.length - 1) (by omega)
        have w2_ := wrap_small ((ks.length : Int) - 1) (by omega) (by omega)
        have en : ((ks.length : Int) - 1).toNat = ks.length - 1 := by omega
        have en2 : (((ks.length - 1 : Nat) : Int)) = (ks.length : Int) - 1 := by omega
        have r1_ : (ks.length : Int) - 1 < (ks.length : Int) := by omega
        have r2_ : (0 : Int) ≤ (ks.length : Int) - 1 := by omega
        rw [en2] at a1_
        have r3_ : 1 ≤ (ks.length : Int) := by omega
        have r4_ : 0 < ks.length := by omega
        rw [show ((0 : Nat) : Int) = 0 from rfl] at a0_
        have HN := Aside0.mk (And.intro hn1 (And.intro en en2))
        have HA := Aside0.mk (show wr.cell? ⟨g, ks.length - 1, none⟩ = some (.int .i64 (rd ks ((ks.length : Int) - 1))) ∧ wr.cell? ⟨g, 0, none⟩ = some (.int .i64 (rd ks 0)) from ⟨a1_, a0_⟩)
        clear a0_ a1_ z0_ z1_ hn1 en en2
        go_upto_region 6 with fail
        clear gc0 gc1 gc2 gc3 e0_ e1_ f8_
        refine start_ (n := 18) (S := fun w' => w'.cell? ⟨g, ks.length - 1, none⟩ = some (.int .i64 (rd ks ((ks.length : Int) - 1))) ∧ w'.cell? ⟨g, 0, none⟩ = some (.int .i64 (rd ks 0))) (ds := [15, 17]) #[false, false, false, false, false, false, false, false, false, false, false, false, false, false, false, false, false, false] (by kernel_rfl) rfl rfl HA.out (fun hHeld => ?_)
        have HD := Aside0.mk (H1.out.on (below_drew (Below.refl wr.heap.size wr)))
        have HBD := Aside0.mk (show Below B w wr.drew from below_drew HB.out)
        have KQD := Aside0.mk (KQ.out.trans (Kq.below (below_drew (Below.refl wr.heap.size wr))))
        have BXD := Aside0.mk (blk_below BX.out (below_drew (Below.refl wr.heap.size wr)))
        generalize wr.drew = wx at HD HBD KQD BXD hHeld ⊢
        have hlen0 : (nd L x.toNat).f1.length = ks.length := by rw [HJ.out.2.2.1]
        have q0 := (HD.out.kidcell HJ.out.1 (q := 0) (by rw [hlen0]; have := HN.out; omega)).2
        have HD1 := Aside0.mk (HD.out.setKid HJ.out.1 (q := 0) (by rw [hlen0]; have := HN.out; omega) (rd ks ((ks.length : Int) - 1)))
        have hlen1 : (nd (L.set x.toNat ⟨(nd L x.toNat).f0, (nd L x.toNat).f1.set 0 (rd ks ((ks.length : Int) - 1))⟩) x.toNat).f1.length = ks.length := by rw [nd_set _ _ _ HJ.out.2.1, if_pos rfl]; simp [hlen0]
        have hll1 : (L.set x.toNat ⟨(nd L x.toNat).f0, (nd L x.toNat).f1.set 0 (rd ks ((ks.length : Int) - 1))⟩).length = L.length := List.length_set ..
        have q1 := (HD1.out.kidcell HJ.out.1 (q := ks.length - 1) (by rw [hlen1]; have := HN.out; omega)).2
        have HD2 := Aside0.mk ((HD1.out.len_eq hll1).setKid HJ.out.1 (q := ks.length - 1) (by rw [hlen1]; have := HN.out; omega) (rd ks 0))
        obtain ⟨cg, hcg⟩ := own_typed (HD.out.kid x.toNat g c2 HJ.out.1) g rfl
        obtain ⟨cg1, hcg1⟩ := own_typed (HD1.out.kid x.toNat g c2 HJ.out.1) g rfl
        have KQ2 := Aside0.mk ((KQD.out.trans (Kq.set (j := 0) (v := .int .i64 (rd ks ((ks.length : Int) - 1))) hcg (.inr rfl))).trans (Kq.set (j := ks.length - 1) (v := .int .i64 (rd ks 0)) hcg1 (.inr rfl)))
        have BX2 := Aside0.mk (((Kq.set (j := 0) (v := .int .i64 (rd ks ((ks.length : Int) - 1))) hcg (.inr rfl)).trans (Kq.set (j := ks.length - 1) (v := .int .i64 (rd ks 0)) hcg1 (.inr rfl))).box BXD.out (by decide) (by decide))
        have hgB : B ≤ g := own_base (HD.out.kid x.toNat g c2 HJ.out.1) g rfl
        have HB2 := Aside0.mk ((HBD.out.setCell (p := ⟨g, 0, none⟩) hgB (.int .i64 (rd ks ((ks.length : Int) - 1)))).setCell (p := ⟨g, ks.length - 1, none⟩) hgB (.int .i64 (rd ks 0)))
        clear hlen0 hlen1 hll1 hcg hcg1 hgB HD1 HD HBD KQD BXD
        refine pure_ (i := 0) (N := (some 20)) (v := ?_) (a' := ?_) #[true, false, false, false, false, false, false, false, false, false, false, false, false, false, false, false, false, false] rfl rfl (by kernel_rfl) (fun _ _ _ h => h) (Or.inl ⟨by rfl, ?_⟩) ?_ ?_
        rotate_left
        · intro w'
          go_simp
          with_reducible rfl
        rotate_left
        · simp only [Act.put, List.setIfInBounds_toArray, List.set_cons_zero, List.set_cons_succ, i64_w, i32_w]
          rfl
        refine pure_ (i := 1) (N := (some 21)) (v := ?_) (a' := ?_) #[true, true, false, false, false, false, false, false, false, false, false, false, false, false, false, false, false, false] rfl rfl (by kernel_rfl) (fun _ _ _ h => h) (Or.inl ⟨by rfl, ?_⟩) ?_ ?_
        rotate_left
        · intro w'
          go_simp
          with_reducible rfl
        rotate_left
        · simp only [Act.put, List.setIfInBounds_toArray, List.set_cons_zero, List.set_cons_succ, i64_w, i32_w]
          rfl
        refine pure_ (i := 2) (N := (some 22)) (v := ?_) (a' := ?_) #[true, true, true, false, false, false, false, false, false, false, false, false, false, false, false, false, false, false] rfl rfl (by kernel_rfl) (fun _ _ _ h => h) (Or.inl ⟨by rfl, ?_⟩) ?_ ?_
        rotate_left
        · intro w'
          go_simp
          with_reducible rfl
        rotate_left
        · simp only [Act.put, List.setIfInBounds_toArray, List.set_cons_zero, List.set_cons_succ, i64_w, i32_w]
          rfl
        refine pure_ (i := 3) (N := (some 23)) (v := ?_) (a' := ?_) #[true, true, true, true, false, false, false, false, false, false, false, false, false, false, false, false, false, false] rfl rfl (by kernel_rfl) (fun _ _ _ h => h) (Or.inl ⟨by rfl, ?_⟩) ?_ ?_
        rotate_left
        · intro w'
          go_simp
          with_reducible rfl
        rotate_left
        · simp only [Act.put, List.setIfInBounds_toArray, List.set_cons_zero, List.set_cons_succ, i64_w, i32_w]
          rfl
        refine pure_ (i := 4) (N := (some 24)) (v := ?_) (a' := ?_) #[true, true, true, true, true, false, false, false, false, false, false, false, false, false, false, false, false, false] rfl rfl (by kernel_rfl) (fun _ _ _ h => h) (Or.inl ⟨by rfl, ?_⟩) ?_ ?_
        rotate_left
        · intro w'
          go_simp
          with_reducible rfl
        rotate_left
        · simp only [Act.put, List.setIfInBounds_toArray, List.set_cons_zero, List.set_cons_succ, i64_w, i32_w]
          rfl
        refine pure_ (i := 5) (N := (some 25)) (v := ?_) (a' := ?_) #[true, true, true, true, true, true, false, false, false, false, false, false, false, false, false, false, false, false] rfl rfl (by kernel_rfl) (fun _ _ _ h => h) (Or.inl ⟨by rfl, ?_⟩) ?_ ?_
        rotate_left
        · intro w'
          go_simp
          with_reducible rfl
        rotate_left
        · simp only [Act.put, List.setIfInBounds_toArray, List.set_cons_zero, List.set_cons_succ, i64_w, i32_w]
          rfl
        refine pure_ (i := 6) (N := (some 26)) (v := ?_) (a' := ?_) #[true, true, true, true, true, true, true, false, false, false, false, false, false, false, false, false, false, false] rfl rfl (by kernel_rfl) (fun _ _ _ h => h) (Or.inl ⟨by rfl, ?_⟩) ?_ ?_
        rotate_left
        · intro w'
          go_simp
          with_reducible rfl
        rotate_left
        · simp only [Act.put, List.setIfInBounds_toArray, List.set_cons_zero, List.set_cons_succ, i64_w, i32_w]
          rfl
        refine pure_ (i := 7) (N := (some 27)) (v := ?_) (a' := ?_) #[true, true, true, true, true, true, true, true, false, false, false, false, false, false, false, false, false, false] rfl rfl (by kernel_rfl) (fun _ _ _ h => h) (Or.inl ⟨by rfl, ?_⟩) ?_ ?_
        rotate_left
        · intro w'
          go_simp
          with_reducible rfl
        rotate_left
        · simp only [Act.put, List.setIfInBounds_toArray, List.set_cons_zero, List.set_cons_succ, i64_w, i32_w]
          rfl
        refine pure_ (i := 8) (N := (some 28)) (v := ?_) (a' := ?_) #[true, true, true, true, true, true, true, true, true, false, false, false, false, false, false, false, false, false] rfl rfl (by kernel_rfl) (fun _ _ _ h => h) (Or.inl ⟨by rfl, ?_⟩) ?_ ?_
        rotate_left
        · intro w'
          go_simp
          with_reducible rfl
        rotate_left
        · simp only [Act.put, List.setIfInBounds_toArray, List.set_cons_zero, List.set_cons_succ, i64_w, i32_w]
          rfl
        refine pure_ (i := 9) (N := (some 29)) (v := ?_) (a' := ?_) #[true, true, true, true, true, true, true, true, true, true, false, false, false, false, false, false, false, false] rfl rfl (by kernel_rfl) (fun _ _ _ h => h) (Or.inl ⟨by rfl, ?_⟩) ?_ ?_
        rotate_left
        · intro w'
          go_simp
          with_reducible rfl
        rotate_left
        · simp only [Act.put, List.setIfInBounds_toArray, List.set_cons_zero, List.set_cons_succ, i64_w, i32_w]
          rfl
        refine take_ (i := 10) (N := (some 30)) (v := ?_) (a' := ?_) #[true, true, true, true, true, true, true, true, true, true, true, false, false, false, false, false, false, false] rfl rfl (by kernel_rfl) (fun _ _ _ h => h) (Or.inl ⟨by rfl, ?_⟩) hHeld ?_ ?_
        rotate_left
        · rintro w' ⟨s0, s1⟩
          go_simp
          with_reducible rfl
        rotate_left
        · simp only [Act.put, List.setIfInBounds_toArray, List.set_cons_zero, List.set_cons_succ, i64_w, i32_w]
          rfl
        refine pure_ (i := 11) (N := (some 31)) (v := ?_) (a' := ?_) #[true, true, true, true, true, true, true, true, true, true, true, true, false, false, false, false, false, false] rfl rfl (by kernel_rfl) (fun _ _ _ h => h) (Or.inl ⟨by rfl, ?_⟩) ?_ ?_
        rotate_left
        · intro w'
          go_simp
          with_reducible rfl
        rotate_left
        · simp only [Act.put, List.setIfInBounds_toArray, List.set_cons_zero, List.set_cons_succ, i64_w, i32_w]
          rfl
        refine pure_ (i := 12) (N := (some 32)) (v := ?_) (a' := ?_) #[true, true, true, true, true, true, true, true, true, true, true, true, true, false, false, false, false, false] rfl rfl (by kernel_rfl) (fun _ _ _ h => h) (Or.inl ⟨by rfl, ?_⟩) ?_ ?_
        rotate_left
        · intro w'
          go_simp
          with_reducible rfl
        rotate_left
        · simp only [Act.put, List.setIfInBounds_toArray, List.set_cons_zero, List.set_cons_succ, i64_w, i32_w]
          rfl
        refine take_ (i := 13) (N := (some 33)) (v := ?_) (a' := ?_) #[true, true, true, true, true, true, true, true, true, true, true, true, true, true, false, false, false, false] rfl rfl (by kernel_rfl) (fun _ _ _ h => h) (Or.inl ⟨by rfl, ?_⟩) hHeld ?_ ?_
        rotate_left
        · rintro w' ⟨s0, s1⟩
          go_simp
          with_reducible rfl
        rotate_left
        · simp only [Act.put, List.setIfInBounds_toArray, List.set_cons_zero, List.set_cons_succ, i64_w, i32_w]
          rfl
        refine pure_ (i := 14) (N := (some 34)) (v := ?_) (a' := ?_) #[true, true, true, true, true, true, true, true, true, true, true, true, true, true, true, false, false, false] rfl rfl (by kernel_rfl) (fun _ _ _ h => h) (Or.inl ⟨by rfl, ?_⟩) ?_ ?_
        rotate_left
        · intro w'
          go_simp
          with_reducible rfl
        rotate_left
        · simp only [Act.put, List.setIfInBounds_toArray, List.set_cons_zero, List.set_cons_succ, i64_w, i32_w]
          rfl
        refine last_ (i := 15) (N := none) #[true, true, true, true, true, true, true, true, true, true, true, true, true, true, true, true, false, false] rfl rfl (by kernel_rfl) (by decide) (fun K hK => ?_)
        refine skip_ (w1 := wx.setCell ⟨g, 0, none⟩ (.int .i64 (rd ks ((ks.length : Int) - 1)))) (by rfl) rfl ?_ ?_
        · go_simp
          first | done | rfl
        refine hK.out _ _ ?_
        clear hK K
        refine pure_ (i := 16) (N := (some 35)) (v := ?_) (a' := ?_) #[true, true, true, true, true, true, true, true, true, true, true, true, true, true, true, true, true, false] rfl rfl (by kernel_rfl) (fun _ _ _ h => h) (Or.inl ⟨by rfl, ?_⟩) ?_ ?_
        rotate_left
        · intro w'
          go_simp
          with_reducible rfl
        rotate_left
        · simp only [Act.put, List.setIfInBounds_toArray, List.set_cons_zero, List.set_cons_succ, i64_w, i32_w]
          rfl
        refine last_ (i := 17) (N := none) #[true, true, true, true, true, true, true, true, true, true, true, true, true, true, true, true, true, true] rfl rfl (by kernel_rfl) (by decide) (fun K hK => ?_)
        refine skip_ (w1 := (wx.setCell ⟨g, 0, none⟩ (.int .i64 (rd ks ((ks.length : Int) - 1)))).setCell ⟨g, ks.length - 1, none⟩ (.int .i64 (rd ks 0))) (by rfl) rfl ?_ ?_
        · go_simp
          first | done | rfl
        refine hK.out _ _ ?_
        clear hK K
        refine done_ (by kernel_rfl) ?_
        go_wp2
        go_roundg (l.length - (x + 1).toNat)
        case measure => go_light; have := HX.out; omega
        case rel =>
          go_light
          have hw : (L.set x.toNat ⟨(nd L x.toNat).f0, (nd L x.toNat).f1.set 0 (rd ks ((ks.length : Int) - 1))⟩).set x.toNat ⟨(nd (L.set x.toNat ⟨(nd L x.toNat).f0, (nd L x.toNat).f1.set 0 (rd ks ((ks.length : Int) - 1))⟩) x.toNat).f0, (nd (L.set x.toNat ⟨(nd L x.toNat).f0, (nd L x.toNat).f1.set 0 (rd ks ((ks.length : Int) - 1))⟩) x.toNat).f1.set (ks.length - 1) (rd ks 0)⟩ = wl st l (x + 1).toNat := by
            rw [HST.out, List.set_set, nd_set _ _ _ HJ.out.2.1, if_pos rfl, HJ.out.2.2.1]
            rw [wipe_kids st s ks (by omega)]
          exact ⟨x + 1, by simp [w1_], ⟨by omega, by have := HX.out; omega⟩, ⟨by rw [← hw]; have h_ := HD2.out; rw [List.length_set, HJ.out.2.2.2] at h_; exact h_⟩, BX2, HB2, KQ2⟩
      · by_cases c3 : ks.length = 0
        · have l0_ : ((ks.length : Int) == 0) = true := by simp [c3]
          by_cases c4 : st > 1
          · have st_ : (st == 0) = false := by simp; omega
            have sz_ : (st = 0) = False := eq_false (by omega)
            have ws_ : wrap64 s = s := by clear e0_ e1_ f8_; unfold wrap64; omega
            have ws2_ : wrap64 (s + 1) = s + 1 := by clear e0_ e1_ f8_ ws_; unfold wrap64; omega
            have HA := Aside0.mk (show wr.cell? ⟨t, 2, none⟩ = some (.slice (some ⟨gn, 0, none⟩) l.length cn) ∧ wr.cell? ⟨t, 0, none⟩ = some (.int .i64 st) ∧ wr.cell? ⟨gn, x.toNat * 2, none⟩ = some (.int .u8 s) from ⟨gc2, gc0, e0_⟩)
            go_upto_region 8 with fail
            clear gc0 gc1 gc2 gc3 e0_ e1_ f8_
            refine start_ (n := 18) (S := fun w' => w'.cell? ⟨t, 2, none⟩ = some (.slice (some ⟨gn, 0, none⟩) l.length cn) ∧ w'.cell? ⟨t, 0, none⟩ = some (.int .i64 st) ∧ w'.cell? ⟨gn, x.toNat * 2, none⟩ = some (.int .u8 s)) (ds := [17]) #[false, false, false, false, false, false, false, false, false, false, false, false, false, false, false, false, false, false] (by kernel_rfl) rfl rfl HA.out (fun hHeld => ?_)
            have HD := Aside0.mk (H1.out.on (below_drew (Below.refl wr.heap.size wr)))
            have HBD := Aside0.mk (show Below B w wr.drew from below_drew HB.out)
            have KQD := Aside0.mk (KQ.out.trans (Kq.below (below_drew (Below.refl wr.heap.size wr))))
            have BXD := Aside0.mk (blk_below BX.out (below_drew (Below.refl wr.heap.size wr)))
            generalize wr.drew = wx at HD HBD KQD BXD hHeld ⊢
            have q8_ := nodecell HD.out (x.toNat * 2)
            have hgB : B ≤ gn := own_base HD.out.row gn rfl
            obtain ⟨cg, hcg⟩ := own_typed HD.out.row gn rfl
            have hn2 : LentAt B wx (.slice (some ⟨gn, 0, none⟩) (L.length + 2) cn) L L.length 2 K := by have h_ := HD.out; rw [HJ.out.2.2.2] at h_ ⊢; exact h_
            have HD2 := Aside0.mk (hn2.setState HJ.out.2.1 (Int.tmod (s + 1) st % 256))
            have KQ2 := Aside0.mk (KQD.out.trans (Kq.set (j := x.toNat * 2) (v := .int .u8 (Int.tmod (s + 1) st % 256)) hcg (.inl rfl)))
            have BX2 := Aside0.mk ((Kq.set (j := x.toNat * 2) (v := .int .u8 (Int.tmod (s + 1) st % 256)) hcg (.inl rfl)).box BXD.out (by decide) (by decide))
            have HB2 := Aside0.mk (HBD.out.setCell (p := ⟨gn, x.toNat * 2, none⟩) hgB (.int .u8 (Int.tmod (s + 1) st % 256)))
            rw [Nat.mul_comm 2 x.toNat] at HD2
            clear hn2 hgB hcg HD HBD KQD BXD
            refine pure_ (i := 0) (N := (some 44)) (v := ?_) (a' := ?_) #[true, false, false, false, false, false, false, false, false, false, false, false, false, false, false, false, false, false] rfl rfl (by kernel_rfl) (fun _ _ _ h => h) (Or.inl ⟨by rfl, ?_⟩) ?_ ?_
            rotate_left
            · intro w'
              go_simp
              with_reducible rfl
            rotate_left
            · simp only [Act.put, List.setIfInBounds_toArray, List.set_cons_zero, List.set_cons_succ, i64_w, i32_w]
              rfl
            refine take_ (i := 1) (N := (some 45)) (v := ?_) (a' := ?_) #[true, true, false, false, false, false, false, false, false, false, false, false, false, false, false, false, false, false] rfl rfl (by kernel_rfl) (fun _ _ _ h => h) (Or.inl ⟨by rfl, ?_⟩) hHeld ?_ ?_
            rotate_left
            · rintro w' ⟨s0, s1, s2⟩
              go_simp
              with_reducible rfl
            rotate_left
            · simp only [Act.put, List.setIfInBounds_toArray, List.set_cons_zero, List.set_cons_succ, i64_w, i32_w]
              rfl
            refine pure_ (i := 2) (N := (some 46)) (v := ?_) (a' := ?_) #[true, true, true, false, false, false, false, false, false, false, false, false, false, false, false, false, false, false] rfl rfl (by kernel_rfl) (fun _ _ _ h => h) (Or.inl ⟨by rfl, ?_⟩) ?_ ?_
            rotate_left
            · intro w'
              go_simp
              with_reducible rfl
            rotate_left
            · simp only [Act.put, List.setIfInBounds_toArray, List.set_cons_zero, List.set_cons_succ, i64_w, i32_w]
              rfl
            refine pure_ (i := 3) (N := (some 47)) (v := ?_) (a' := ?_) #[true, true, true, true, false, false, false, false, false, false, false, false, false, false, false, false, false, false] rfl rfl (by kernel_rfl) (fun _ _ _ h => h) (Or.inl ⟨by rfl, ?_⟩) ?_ ?_
            rotate_left
            · intro w'
              go_simp
              with_reducible rfl
            rotate_left
            · simp only [Act.put, List.setIfInBounds_toArray, List.set_cons_zero, List.set_cons_succ, i64_w, i32_w]
              rfl
            refine take_ (i := 4) (N := (some 48)) (v := ?_) (a' := ?_) #[true, true, true, true, true, false, false, false, false, false, false, false, false, false, false, false, false, false] rfl rfl (by kernel_rfl) (fun _ _ _ h => h) (Or.inl ⟨by rfl, ?_⟩) hHeld ?_ ?_
            rotate_left
            · rintro w' ⟨s0, s1, s2⟩
              go_simp
              with_reducible rfl
            rotate_left
            · simp only [Act.put, List.setIfInBounds_toArray, List.set_cons_zero, List.set_cons_succ, i64_w, i32_w]
              rfl
            refine pure_ (i := 5) (N := (some 49)) (v := ?_) (a' := ?_) #[true, true, true, true, true, true, false, false, false, false, false, false, false, false, false, false, false, false] rfl rfl (by kernel_rfl) (fun _ _ _ h => h) (Or.inl ⟨by rfl, ?_⟩) ?_ ?_
            rotate_left
            · intro w'
              go_simp
              with_reducible rfl
            rotate_left
            · simp only [Act.put, List.setIfInBounds_toArray, List.set_cons_zero, List.set_cons_succ, i64_w, i32_w]
              rfl
            refine pure_ (i := 6) (N := (some 50)) (v := ?_) (a' := ?_) #[true, true, true, true, true, true, true, false, false, false, false, false, false, false, false, false, false, false] rfl rfl (by kernel_rfl) (fun _ _ _ h => h) (Or.inl ⟨by rfl, ?_⟩) ?_ ?_
            rotate_left
            · intro w'
              go_simp
              with_reducible rfl
            rotate_left
            · simp only [Act.put, List.setIfInBounds_toArray, List.set_cons_zero, List.set_cons_succ, i64_w, i32_w]
              rfl
            refine pure_ (i := 7) (N := (some 51)) (v := ?_) (a' := ?_) #[true, true, true, true, true, true, true, true, false, false, false, false, false, false, false, false, false, false] rfl rfl (by kernel_rfl) (fun _ _ _ h => h) (Or.inl ⟨by rfl, ?_⟩) ?_ ?_
            rotate_left
            · intro w'
              go_simp
              with_reducible rfl
            rotate_left
            · simp only [Act.put, List.setIfInBounds_toArray, List.set_cons_zero, List.set_cons_succ, i64_w, i32_w]
              rfl
            refine take_ (i := 8) (N := (some 52)) (v := ?_) (a' := ?_) #[true, true, true, true, true, true, true, true, true, false, false, false, false, false, false, false, false, false] rfl rfl (by kernel_rfl) (fun _ _ _ h => h) (Or.inl ⟨by rfl, ?_⟩) hHeld ?_ ?_
            rotate_left
            · rintro w' ⟨s0, s1, s2⟩
              go_simp
              with_reducible rfl
            rotate_left
            · simp only [Act.put, List.setIfInBounds_toArray, List.set_cons_zero, List.set_cons_succ, i64_w, i32_w]
              rfl
            refine pure_ (i := 9) (N := (some 53)) (v := ?_) (a' := ?_) #[true, true, true, true, true, true, true, true, true, true, false, false, false, false, false, false, false, false] rfl rfl (by kernel_rfl) (fun _ _ _ h => h) (Or.inl ⟨by rfl, ?_⟩) ?_ ?_
            rotate_left
            · intro w'
              go_simp
              with_reducible rfl
            rotate_left
            · simp only [Act.put, List.setIfInBounds_toArray, List.set_cons_zero, List.set_cons_succ, i64_w, i32_w]
              rfl
            refine pure_ (i := 10) (N := (some 54)) (v := ?_) (a' := ?_) #[true, true, true, true, true, true, true, true, true, true, true, false, false, false, false, false, false, false] rfl rfl (by kernel_rfl) (fun _ _ _ h => h) (Or.inl ⟨by rfl, ?_⟩) ?_ ?_
            rotate_left
            · intro w'
              go_simp
              with_reducible rfl
            rotate_left
            · simp only [Act.put, List.setIfInBounds_toArray, List.set_cons_zero, List.set_cons_succ, i64_w, i32_w]
              rfl
            refine pure_ (i := 11) (N := (some 55)) (v := ?_) (a' := ?_) #[true, true, true, true, true, true, true, true, true, true, true, true, false, false, false, false, false, false] rfl rfl (by kernel_rfl) (fun _ _ _ h => h) (Or.inl ⟨by rfl, ?_⟩) ?_ ?_
            rotate_left
            · intro w'
              go_simp
              with_reducible rfl
            rotate_left
            · simp only [Act.put, List.setIfInBounds_toArray, List.set_cons_zero, List.set_cons_succ, i64_w, i32_w]
              rfl
            refine take_ (i := 12) (N := (some 56)) (v := ?_) (a' := ?_) #[true, true, true, true, true, true, true, true, true, true, true, true, true, false, false, false, false, false] rfl rfl (by kernel_rfl) (fun _ _ _ h => h) (Or.inl ⟨by rfl, ?_⟩) hHeld ?_ ?_
            rotate_left
            · rintro w' ⟨s0, s1, s2⟩
              go_simp
              with_reducible rfl
            rotate_left
            · simp only [Act.put, List.setIfInBounds_toArray, List.set_cons_zero, List.set_cons_succ, i64_w, i32_w]
              rfl
            refine pure_ (i := 13) (N := (some 57)) (v := ?_) (a' := ?_) #[true, true, true, true, true, true, true, true, true, true, true, true, true, true, false, false, false, false] rfl rfl (by kernel_rfl) (fun _ _ _ h => h) (Or.inl ⟨by rfl, ?_⟩) ?_ ?_
            rotate_left
            · intro w'
              go_simp
              with_reducible rfl
            rotate_left
            · simp only [Act.put, List.setIfInBounds_toArray, List.set_cons_zero, List.set_cons_succ, i64_w, i32_w]
              rfl
            refine pure_ (i := 14) (N := (some 58)) (v := ?_) (a' := ?_) #[true, true, true, true, true, true, true, true, true, true, true, true, true, true, true, false, false, false] rfl rfl (by kernel_rfl) (fun _ _ _ h => h) (Or.inl ⟨by rfl, ?_⟩) ?_ ?_
            rotate_left
            · intro w'
              go_simp
              with_reducible rfl
            rotate_left
            · simp only [Act.put, List.setIfInBounds_toArray, List.set_cons_zero, List.set_cons_succ, i64_w, i32_w]
              rfl
            refine pure_ (i := 15) (N := (some 59)) (v := ?_) (a' := ?_) #[true, true, true, true, true, true, true, true, true, true, true, true, true, true, true, true, false, false] rfl rfl (by kernel_rfl) (fun _ _ _ h => h) (Or.inl ⟨by rfl, ?_⟩) ?_ ?_
            rotate_left
            · intro w'
              go_simp
              with_reducible rfl
            rotate_left
            · simp only [Act.put, List.setIfInBounds_toArray, List.set_cons_zero, List.set_cons_succ, i64_w, i32_w]
              rfl
            refine pure_ (i := 16) (N := (some 60)) (v := ?_) (a' := ?_) #[true, true, true, true, true, true, true, true, true, true, true, true, true, true, true, true, true, false] rfl rfl (by kernel_rfl) (fun _ _ _ h => h) (Or.inl ⟨by rfl, ?_⟩) ?_ ?_
            rotate_left
            · intro w'
              go_simp
              with_reducible rfl
            rotate_left
            · simp only [Act.put, List.setIfInBounds_toArray, List.set_cons_zero, List.set_cons_succ, i64_w, i32_w]
              rfl
            refine last_ (i := 17) (N := none) #[true, true, true, true, true, true, true, true, true, true, true, true, true, true, true, true, true, true] rfl rfl (by kernel_rfl) (by decide) (fun K hK => ?_)
            refine skip_ (w1 := wx.setCell ⟨gn, x.toNat * 2, none⟩ (.int .u8 (Int.tmod (s + 1) st % 256))) (by rfl) rfl ?_ ?_
            · go_simp
              first | done | rfl
            refine hK.out _ _ ?_
            clear hK K
            refine done_ (by kernel_rfl) ?_
            go_wp2
            go_roundg (l.length - (x + 1).toNat)
            case measure => go_light; have := HX.out; omega
            case rel =>
              go_light
              have hw : L.set x.toNat ⟨Int.tmod (s + 1) st % 256, (nd L x.toNat).f1⟩ = wl st l (x + 1).toNat := by
                rw [HST.out, HJ.out.2.2.1, wipe_state st s ks c3 c4]
              have tm : Int.tmod (s + 1) st = (s + 1) % st := Int.tmod_eq_emod_of_nonneg (by omega)
              rw [tm] at HD2 BX2 HB2 KQ2 hw
              exact ⟨x + 1, by simp [w1_], ⟨by omega, by have := HX.out; omega⟩, ⟨by rw [← hw]; have h_ := HD2.out; rw [HJ.out.2.2.2] at h_; exact h_⟩, BX2, HB2, KQ2⟩
          · have hw : wipeX st ⟨s, ks⟩ = ⟨s, ks⟩ := by
              unfold wipeX
              rw [if_neg (by show ¬ ks.length > 1; omega), if_neg (fun h => c4 h.2)]
            have H2 : Aside0 (LentAt B wr (.slice (some ⟨gn, 0, none⟩) (l.length + 2) cn) (wl st l (x + 1).toNat) l.length 2 K) := ⟨by
              rw [HST.out, hw, ← HJ.out.2.2.1, set_same _ _ HJ.out.2.1]
              exact H.out⟩
            clear hw HST H1
            go_wp2
            go_roundg (l.length - (x + 1).toNat)
            case measure => go_light; have := HX.out; omega
            case rel =>
              go_light
              exact ⟨x + 1, by simp [w1_], ⟨by omega, by have := HX.out; omega⟩, H2, BX, HB, KQ⟩
        · have l0_ : ((ks.length : Int) == 0) = false := by simp [c3]
          have hw : wipeX st ⟨s, ks⟩ = ⟨s, ks⟩ := by
            unfold wipeX
            rw [if_neg (by show ¬ ks.length > 1; omega), if_neg (fun h => c3 h.1)]
          have H2 : Aside0 (LentAt B wr (.slice (some ⟨gn, 0, none⟩) (l.length + 2) cn) (wl st l (x + 1).toNat) l.length 2 K) := ⟨by
            rw [HST.out, hw, ← HJ.out.2.2.1, set_same _ _ HJ.out.2.1]
            exact H.out⟩
          clear hw HST H1
          go_wp2
          go_roundg (l.length - (x + 1).toNat)
          case measure => go_light; have := HX.out; omega
          case rel =>
            go_light
            exact ⟨x + 1, by simp [w1_], ⟨by omega, by have := HX.out; omega⟩, H2, BX, HB, KQ⟩
end Go.Proofs.YtbnonnogkgbpiaaDoor.LentT
end
section
namespace Go.Proofs.YtbnonnogkgbpiaaDoor.PT
open Go.RowKit Go.Proofs.YtbnonnogkgbpiaaDoorW.PrintWords Go.Proofs.YtbnonnogkgbpiaaDoorW.PrintLast Go.Proofs.YtbnonnogkgbpiaaDoorW.PrintMore
attribute [local go_sem] max2_int min2_int max_two min_two max_three min_three max_four min_four   -- for this text's walks alone
set_option linter.unusedVariables false
set_option linter.unusedSimpArgs false
def vivariumref11_answer.l0 : Nat → List Int → Int → Int → Int → Int → List (S49) → Int → Option (Int)
  | 0, _, _, _, _, _, _, _ => none
  | k + 1, x1, x5, x6, x151000, x151001, x151002, x151003 => if x6 < (x1.length : Int) then (if 0 ≤ x5 then (if x5 < (x151002.length : Int) then (if 0 ≤ x6 then (if 0 ≤ (rd x1 x6) then (if (rd x1 x6) < (((rd_T49 x151002 x5).f1).length : Int) then (vivariumref11_answer.l0 k x1 (rd ((rd_T49 x151002 x5).f1) (rd x1 x6)) (wrap64 (x6 + 1)) x151000 x151001 x151002 x151003) else (none)) else (none)) else (none)) else (none)) else (none)) else (if 0 ≤ x5 then (if x5 < (x151002.length : Int) then (some ((rd_T49 x151002 x5).f0)) else (none)) else (none))
def vivariumref11_answer.f (k : Nat) (a0_0 : Int) (a0_1 : Int) (l0_2 : List (S49)) (a0_3 : Int) (l1 : List Int) : Option (Int) := vivariumref11_answer.l0 k l1 a0_3 0 a0_0 a0_1 l0_2 a0_3
theorem vivariumref11_answer.mono_l : ∀ k, (∀ y0 y1 y2 y3 y4 y5 y6, LeO (vivariumref11_answer.l0 k y0 y1 y2 y3 y4 y5 y6) (vivariumref11_answer.l0 (k + 1) y0 y1 y2 y3 y4 y5 y6))
  | 0 => fun _ _ _ _ _ _ _ r h => by simp [vivariumref11_answer.l0] at h
  | k + 1 => by
    have ih0 := vivariumref11_answer.mono_l k
    · intro y0 y1 y2 y3 y4 y5 y6
      unfold vivariumref11_answer.l0
      repeat' first
      | (with_reducible exact ih0 _ _ _ _ _ _ _)
      | (with_reducible exact LeO.refl _)
      | (with_reducible exact LeO.none _)
      | (with_reducible refine LeO.ite ?_ ?_)
      | (with_reducible refine LeO.bind ?_ (fun _ => ?_))
      | exact ih0 _ _ _ _ _ _ _
      | exact LeO.none _
      | refine LeO.ite ?_ ?_
      | refine LeO.bind ?_ (fun _ => ?_)
theorem vivariumref11_answer.mono : ∀ a0 a1 a2 a3 a4 k, LeO (vivariumref11_answer.f k a0 a1 a2 a3 a4) (vivariumref11_answer.f (k + 1) a0 a1 a2 a3 a4) := by
  intro a0 a1 a2 a3 a4 k
  have ih0 := vivariumref11_answer.mono_l k
  unfold vivariumref11_answer.f
  repeat' first
      | (with_reducible exact ih0 _ _ _ _ _ _ _)
      | (with_reducible exact LeO.refl _)
      | (with_reducible exact LeO.none _)
      | (with_reducible refine LeO.ite ?_ ?_)
      | (with_reducible refine LeO.bind ?_ (fun _ => ?_))
      | exact ih0 _ _ _ _ _ _ _
      | exact LeO.none _
      | refine LeO.ite ?_ ?_
      | refine LeO.bind ?_ (fun _ => ?_)
set_option maxHeartbeats 8000000 in
set_option maxRecDepth 100000 in
theorem vivariumref11_answer.calls (k : Nat) (a0_0 : Int) (a0_1 : Int) (A0_2 : Option Addr) (c0_2 : Nat) (l0_2 : List (S49)) (a0_3 : Int) (A1 : Option Addr) (c1 : Nat) (l1 : List Int) (r : Int) (w : World) (hr0_2 : Kd.C k49 w A0_2 l0_2.length l0_2) (hc0_2 : l0_2.length ≤ c0_2) (hr1 : Kd.C (Kd.int .u8) w A1 l1.length l1) (hc1 : l1.length ≤ c1) (h : vivariumref11_answer.f k a0_0 a0_1 l0_2 a0_3 l1 = some r) :
    Calls Tryd.prog 73 #[.agg #[.int .i64 a0_0, .int .i64 a0_1, .slice A0_2 l0_2.length c0_2, .int .i64 a0_3], .slice A1 l1.length c1] w fun e w' => e = .returned (.int .u8 r) ∧ Below w.heap.size w w' := by
  have hu24 := Tryd.underlying24
  have HR0_2 := Aside0.mk hr0_2
  have HC0_2 := Aside0.mk hc0_2
  clear hr0_2 hc0_2
  have HR1 := Aside0.mk hr1
  have HC1 := Aside0.mk hc1
  clear hr1 hc1
  have HB := Aside0.mk (Below.refl w.heap.size w)
  have H : (vivariumref11_answer.l0 k l1 a0_3 0 a0_0 a0_1 l0_2 a0_3) = some r := h
  clear h
  have H' := Aside0.mk H
  clear H
  go_enter Tryd.func73, Tryd.ntmps73
  go_wp2_with (first | ((with_reducible refine gate_dst (N := 2) rfl ?_); refine box_event ?hg (N := 2) ?hd (cs := #[.int .i64 a0_0, .int .i64 a0_1, .slice A0_2 l0_2.length c0_2, .int .i64 a0_3]) (t := 24) ?hr ?_; (case hd => rfl); (case hg => rfl); (case hr => first | (go_simp; done) | (go_simp; rfl)); intro gb150 hg w3 hbox hb; have n0_ := Aside0.mk (below_step (by repeat (first | (with_reducible first | exact HB.out | apply below_alloc | apply pw_below_drewN | apply below_drew1) | exact HB.out)) hb); have n1_ := Aside0.mk (hbox); have n2_ := Aside0.mk ((by rw [hg]; exact (below_size (by repeat (first | (with_reducible first | exact HB.out | apply below_alloc | apply pw_below_drewN | apply below_drew1) | exact HB.out))) : w.heap.size ≤ gb150)); have n3_ := Aside0.mk ((by rw [hg]; exact (below_size (by repeat (first | (with_reducible first | exact HB.out | apply below_alloc | apply pw_below_drewN | apply below_drew1) | exact HB.out))) : w.heap.size ≤ gb150)); clear HB; have HB := n0_; have BK150 := n1_; have GW150 := n2_; have GE150 := n3_; clear n0_ n1_ n2_ n3_; clear hb hbox hg; have hcz4_0 : w3.cell? ⟨gb150, 0, none⟩ = some (.int .i64 a0_0) := (blk_cell BK150.out 0).trans rfl; have hcz4_1 : w3.cell? ⟨gb150, 1, none⟩ = some (.int .i64 a0_1) := (blk_cell BK150.out 1).trans rfl; have hcz4_2 : w3.cell? ⟨gb150, 2, none⟩ = some (.slice A0_2 l0_2.length c0_2) := (blk_cell BK150.out 2).trans rfl; have hcz4_3 : w3.cell? ⟨gb150, 3, none⟩ = some (.int .i64 a0_3) := (blk_cell BK150.out 3).trans rfl; have hfz4_0 := blk_frozen BK150.out 0; have hfz4_1 := blk_frozen BK150.out 1; have hfz4_2 := blk_frozen BK150.out 2; have hfz4_3 := blk_frozen BK150.out 3))
  repeat (go_quiet (first | ((with_reducible refine gate_dst (N := 2) rfl ?_); refine box_event ?hg (N := 2) ?hd (cs := #[.int .i64 a0_0, .int .i64 a0_1, .slice A0_2 l0_2.length c0_2, .int .i64 a0_3]) (t := 24) ?hr ?_; (case hd => rfl); (case hg => rfl); (case hr => first | (go_simp; done) | (go_simp; rfl)); intro gb150 hg w3 hbox hb; have n0_ := Aside0.mk (below_step (by repeat (first | (with_reducible first | exact HB.out | apply below_alloc | apply pw_below_drewN | apply below_drew1) | exact HB.out)) hb); have n1_ := Aside0.mk (hbox); have n2_ := Aside0.mk ((by rw [hg]; exact (below_size (by repeat (first | (with_reducible first | exact HB.out | apply below_alloc | apply pw_below_drewN | apply below_drew1) | exact HB.out))) : w.heap.size ≤ gb150)); have n3_ := Aside0.mk ((by rw [hg]; exact (below_size (by repeat (first | (with_reducible first | exact HB.out | apply below_alloc | apply pw_below_drewN | apply below_drew1) | exact HB.out))) : w.heap.size ≤ gb150)); clear HB; have HB := n0_; have BK150 := n1_; have GW150 := n2_; have GE150 := n3_; clear n0_ n1_ n2_ n3_; clear hb hbox hg; have hcz4_0 : w3.cell? ⟨gb150, 0, none⟩ = some (.int .i64 a0_0) := (blk_cell BK150.out 0).trans rfl; have hcz4_1 : w3.cell? ⟨gb150, 1, none⟩ = some (.int .i64 a0_1) := (blk_cell BK150.out 1).trans rfl; have hcz4_2 : w3.cell? ⟨gb150, 2, none⟩ = some (.slice A0_2 l0_2.length c0_2) := (blk_cell BK150.out 2).trans rfl; have hcz4_3 : w3.cell? ⟨gb150, 3, none⟩ = some (.int .i64 a0_3) := (blk_cell BK150.out 3).trans rfl; have hfz4_0 := blk_frozen BK150.out 0; have hfz4_1 := blk_frozen BK150.out 1; have hfz4_2 := blk_frozen BK150.out 2; have hfz4_3 := blk_frozen BK150.out 3)); try go_wp2_with (first | ((with_reducible refine gate_dst (N := 2) rfl ?_); refine box_event ?hg (N := 2) ?hd (cs := #[.int .i64 a0_0, .int .i64 a0_1, .slice A0_2 l0_2.length c0_2, .int .i64 a0_3]) (t := 24) ?hr ?_; (case hd => rfl); (case hg => rfl); (case hr => first | (go_simp; done) | (go_simp; rfl)); intro gb150 hg w3 hbox hb; have n0_ := Aside0.mk (below_step (by repeat (first | (with_reducible first | exact HB.out | apply below_alloc | apply pw_below_drewN | apply below_drew1) | exact HB.out)) hb); have n1_ := Aside0.mk (hbox); have n2_ := Aside0.mk ((by rw [hg]; exact (below_size (by repeat (first | (with_reducible first | exact HB.out | apply below_alloc | apply pw_below_drewN | apply below_drew1) | exact HB.out))) : w.heap.size ≤ gb150)); have n3_ := Aside0.mk ((by rw [hg]; exact (below_size (by repeat (first | (with_reducible first | exact HB.out | apply below_alloc | apply pw_below_drewN | apply below_drew1) | exact HB.out))) : w.heap.size ≤ gb150)); clear HB; have HB := n0_; have BK150 := n1_; have GW150 := n2_; have GE150 := n3_; clear n0_ n1_ n2_ n3_; clear hb hbox hg; have hcz4_0 : w3.cell? ⟨gb150, 0, none⟩ = some (.int .i64 a0_0) := (blk_cell BK150.out 0).trans rfl; have hcz4_1 : w3.cell? ⟨gb150, 1, none⟩ = some (.int .i64 a0_1) := (blk_cell BK150.out 1).trans rfl; have hcz4_2 : w3.cell? ⟨gb150, 2, none⟩ = some (.slice A0_2 l0_2.length c0_2) := (blk_cell BK150.out 2).trans rfl; have hcz4_3 : w3.cell? ⟨gb150, 3, none⟩ = some (.int .i64 a0_3) := (blk_cell BK150.out 3).trans rfl; have hfz4_0 := blk_frozen BK150.out 0; have hfz4_1 := blk_frozen BK150.out 1; have hfz4_2 := blk_frozen BK150.out 2; have hfz4_3 := blk_frozen BK150.out 3)))
  go_loopg [5, 6] k (fun kq v5 v6 w' => ∃ (x5_1 : Int) (x6_1 : Int), v5 = .int .i64 x5_1 ∧ v6 = .int .i64 x6_1 ∧ Aside0 (vivariumref11_answer.l0 kq l1 x5_1 x6_1 a0_0 a0_1 l0_2 a0_3 = some r) ∧ Aside0 (kq ≤ k) ∧ Aside0 (w'.heap[gb150]? = some (.cells #[.int .i64 a0_0, .int .i64 a0_1, (.slice A0_2 l0_2.length c0_2), .int .i64 a0_3] 24 (0, 0))) ∧ Aside0 (Below w.heap.size w w'))
  case atStart => exact ⟨(a0_3), (0), (by first | rfl | (simp; done) | (simp [*]; done) | (simp [wrap64]; done)), (by first | rfl | (simp; done) | (simp [*]; done) | (simp [wrap64]; done)), H', ⟨Nat.le_refl _⟩, ⟨by (with_reducible repeat (first | refine blk_drewN ?_ _ | refine blk_drew ?_ | refine blk_alloc ?_ _)); exact BK150.out⟩, ⟨by repeat (first | (with_reducible first | exact HB.out | apply below_alloc | apply pw_below_drewN | apply below_drew1 | refine below_set ?_ GE150.out) | exact HB.out)⟩⟩
  case round =>
    clear H'
    try clear c1
    try clear p2
    try clear hcz4_0
    try clear hcz4_1
    try clear hcz4_2
    try clear hcz4_3
    try clear hfz4_0
    try clear hfz4_1
    try clear hfz4_2
    try clear hfz4_3
    obtain ⟨x5_1, x6_1, rfl, rfl, HA, HK1, BK150, HB⟩ := hrel
    cases gk with
    | zero => exact absurd HA.out (by simp [vivariumref11_answer.l0])
    | succ k1 =>
      have H := HA.out
      clear HA
      simp only [vivariumref11_answer.l0] at H
      by_cases c5 : x6_1 < (l1.length : Int)
      · rw [if_pos c5] at H
        have c5b0 : decide (x6_1 < (l1.length : Int)) = true := decide_eq_true c5
        clear c5
        by_cases c6 : 0 ≤ x5_1
        · rw [if_pos c6] at H
          have c6b0 : decide (0 ≤ x5_1) = true := decide_eq_true c6
          clear c6
          by_cases c7 : x5_1 < (l0_2.length : Int)
          · rw [if_pos c7] at H
            have c7b0 : decide (x5_1 < (l0_2.length : Int)) = true := decide_eq_true c7
            clear c7
            by_cases c8 : 0 ≤ x6_1
            · rw [if_pos c8] at H
              have c8b0 : decide (0 ≤ x6_1) = true := decide_eq_true c8
              clear c8
              by_cases c9 : 0 ≤ (rd l1 x6_1)
              · rw [if_pos c9] at H
                have c9b0 : decide (0 ≤ (rd l1 x6_1)) = true := decide_eq_true c9
                clear c9
                by_cases c10 : (rd l1 x6_1) < (((rd_T49 l0_2 x5_1).f1).length : Int)
                · rw [if_pos c10] at H
                  have c10b0 : decide ((rd l1 x6_1) < (((rd_T49 l0_2 x5_1).f1).length : Int)) = true := decide_eq_true c10
                  clear c10
                  have H' := Aside0.mk H
                  clear H
                  have hcz11_0 : wr.cell? ⟨gb150, 0, none⟩ = some (.int .i64 a0_0) := (blk_cell BK150.out 0).trans rfl
                  have hcz11_1 : wr.cell? ⟨gb150, 1, none⟩ = some (.int .i64 a0_1) := (blk_cell BK150.out 1).trans rfl
                  have hcz11_2 : wr.cell? ⟨gb150, 2, none⟩ = some (.slice A0_2 l0_2.length c0_2) := (blk_cell BK150.out 2).trans rfl
                  have hcz11_3 : wr.cell? ⟨gb150, 3, none⟩ = some (.int .i64 a0_3) := (blk_cell BK150.out 3).trans rfl
                  have hfz11_0 := blk_frozen BK150.out 0
                  have hfz11_1 := blk_frozen BK150.out 1
                  have hfz11_2 := blk_frozen BK150.out 2
                  have hfz11_3 := blk_frozen BK150.out 3
                  have p151 : 0 ≤ (x5_1 : Int) := of_decide_eq_true (by first | (with_reducible assumption) | assumption)
                  have q151 : x5_1 < (l0_2.length : Int) := of_decide_eq_true (by first | (with_reducible assumption) | assumption)
                  obtain ⟨ad151, A151_1, c151_1, e151, hx151_0, hx151_1, hl151_1, hi151_1⟩ := at_T49 HR0_2.out x5_1 p151 q151
                  cases e151
                  replace hx151_0 := (HB.out.cell (World.block_lt_of_cell? w _ hx151_0)).trans hx151_0
                  replace hx151_1 := (HB.out.cell (World.block_lt_of_cell? w _ hx151_1)).trans hx151_1
                  have HR151_1 := Aside0.mk hi151_1
                  have HC151_1 := Aside0.mk hl151_1
                  clear hi151_1 hl151_1
                  replace p151 := eq_true p151
                  replace q151 := eq_true q151
                  have p152 : 0 ≤ (x6_1 : Int) := of_decide_eq_true (by first | (with_reducible assumption) | assumption)
                  have q152 : x6_1 < (l1.length : Int) := of_decide_eq_true (by first | (with_reducible assumption) | assumption)
                  obtain ⟨ad152, e152, hx152_0⟩ := Kd.at_int HR1.out x6_1 p152 q152
                  cases e152
                  replace hx152_0 := (HB.out.cell (World.block_lt_of_cell? w _ hx152_0)).trans hx152_0
                  replace p152 := eq_true p152
                  replace q152 := eq_true q152
                  have p153 : 0 ≤ ((rd l1 x6_1) : Int) := of_decide_eq_true (by first | (with_reducible assumption) | assumption)
                  have q153 : (rd l1 x6_1) < (((rd_T49 l0_2 x5_1).f1).length : Int) := of_decide_eq_true (by first | (with_reducible assumption) | assumption)
                  obtain ⟨ad153, e153, hx153_0⟩ := Kd.at_int HR151_1.out (rd l1 x6_1) p153 q153
                  cases e153
                  replace hx153_0 := (HB.out.cell (World.block_lt_of_cell? w _ hx153_0)).trans hx153_0
                  replace p153 := eq_true p153
                  replace q153 := eq_true q153
                  go_wp2
                  repeat (go_quiet (fail); try go_wp2)
                  go_roundg k1
                  case measure => have := HK1.out; omega
                  case rel => exact ⟨(rd ((rd_T49 l0_2 x5_1).f1) (rd l1 x6_1)), (wrap64 (x6_1 + 1)), (by first | rfl | (simp; done) | (simp [*]; done) | (simp [wrap64]; done)), (by first | rfl | (simp; done) | (simp [*]; done) | (simp [wrap64]; done)), H', ⟨by have := HK1.out; omega⟩, ⟨by (with_reducible repeat (first | refine blk_drewN ?_ _ | refine blk_drew ?_ | refine blk_alloc ?_ _)); exact BK150.out⟩, ⟨by repeat (first | (with_reducible first | exact HB.out | apply below_alloc | apply pw_below_drewN | apply below_drew1 | refine below_set ?_ GE150.out) | exact HB.out)⟩⟩
                · rw [if_neg c10] at H
                  exact absurd H (by simp)
              · rw [if_neg c9] at H
                exact absurd H (by simp)
            · rw [if_neg c8] at H
              exact absurd H (by simp)
          · rw [if_neg c7] at H
            exact absurd H (by simp)
        · rw [if_neg c6] at H
          exact absurd H (by simp)
      · rw [if_neg c5] at H
        have c5b0 : decide (x6_1 < (l1.length : Int)) = false := decide_eq_false c5
        clear c5
        by_cases c12 : 0 ≤ x5_1
        · rw [if_pos c12] at H
          have c12b0 : decide (0 ≤ x5_1) = true := decide_eq_true c12
          clear c12
          by_cases c13 : x5_1 < (l0_2.length : Int)
          · rw [if_pos c13] at H
            have c13b0 : decide (x5_1 < (l0_2.length : Int)) = true := decide_eq_true c13
            clear c13
            obtain rfl := Option.some.inj H
            have hcz14_0 : wr.cell? ⟨gb150, 0, none⟩ = some (.int .i64 a0_0) := (blk_cell BK150.out 0).trans rfl
            have hcz14_1 : wr.cell? ⟨gb150, 1, none⟩ = some (.int .i64 a0_1) := (blk_cell BK150.out 1).trans rfl
            have hcz14_2 : wr.cell? ⟨gb150, 2, none⟩ = some (.slice A0_2 l0_2.length c0_2) := (blk_cell BK150.out 2).trans rfl
            have hcz14_3 : wr.cell? ⟨gb150, 3, none⟩ = some (.int .i64 a0_3) := (blk_cell BK150.out 3).trans rfl
            have hfz14_0 := blk_frozen BK150.out 0
            have hfz14_1 := blk_frozen BK150.out 1
            have hfz14_2 := blk_frozen BK150.out 2
            have hfz14_3 := blk_frozen BK150.out 3
            have p154 : 0 ≤ (x5_1 : Int) := of_decide_eq_true (by first | (with_reducible assumption) | assumption)
            have q154 : x5_1 < (l0_2.length : Int) := of_decide_eq_true (by first | (with_reducible assumption) | assumption)
            obtain ⟨ad154, A154_1, c154_1, e154, hx154_0, hx154_1, hl154_1, hi154_1⟩ := at_T49 HR0_2.out x5_1 p154 q154
            cases e154
            replace hx154_0 := (HB.out.cell (World.block_lt_of_cell? w _ hx154_0)).trans hx154_0
            replace hx154_1 := (HB.out.cell (World.block_lt_of_cell? w _ hx154_1)).trans hx154_1
            have HR154_1 := Aside0.mk hi154_1
            have HC154_1 := Aside0.mk hl154_1
            clear hi154_1 hl154_1
            replace p154 := eq_true p154
            replace q154 := eq_true q154
            go_wp2
            repeat (go_quiet (fail); try go_wp2)
            go_ret
            exact ⟨by first | rfl | (simp [errW_none, errW_some] <;> rfl) | (simp [*, errW_none, errW_some] <;> rfl), by repeat (first | (with_reducible first | exact HB.out | apply below_alloc | apply pw_below_drewN | apply below_drew1 | refine below_set ?_ GE150.out) | exact HB.out)⟩
          · rw [if_neg c13] at H
            exact absurd H (by simp)
        · rw [if_neg c12] at H
          exact absurd H (by simp)
def vivariumref11_At.l0 : Nat → List Int → Int → Int → Int → List (S49) → Int → Option (Int × Int)
  | 0, _, _, _, _, _, _ => none
  | k + 1, x1, x7, x156000, x156001, x156002, x156003 => if x7 < (x1.length : Int) then (if 0 ≤ x7 then (if (wrap64 (rd x1 x7)) ≥ x156000 then (some (0, 7)) else (vivariumref11_At.l0 k x1 (wrap64 (x7 + 1)) x156000 x156001 x156002 x156003)) else (none)) else ((vivariumref11_answer.f k x156000 x156001 x156002 x156003 x1).bind fun t158 => (some (t158, 0)))
def vivariumref11_At.f (k : Nat) (a0_0 : Int) (a0_1 : Int) (l0_2 : List (S49)) (a0_3 : Int) (l1 : List Int) : Option (Int × Int) := (vivariumref11_Check.f k a0_0 a0_1 l0_2 a0_3).bind fun t156 => (if t156 = 0 then (if (l1.length : Int) = a0_1 then (vivariumref11_At.l0 k l1 0 a0_0 a0_1 l0_2 a0_3) else (some (0, 2))) else (some (0, t156)))
theorem vivariumref11_At.mono_l : ∀ k, (∀ y0 y1 y2 y3 y4 y5, LeO (vivariumref11_At.l0 k y0 y1 y2 y3 y4 y5) (vivariumref11_At.l0 (k + 1) y0 y1 y2 y3 y4 y5))
  | 0 => fun _ _ _ _ _ _ r h => by simp [vivariumref11_At.l0] at h
  | k + 1 => by
    have ih0 := vivariumref11_At.mono_l k
    · intro y0 y1 y2 y3 y4 y5
      unfold vivariumref11_At.l0
      repeat' first
      | (with_reducible exact ih0 _ _ _ _ _ _)
      | (with_reducible exact vivariumref11_Check.mono _ _ _ _ _)
      | (with_reducible exact vivariumref11_answer.mono _ _ _ _ _ _)
      | (with_reducible exact LeO.refl _)
      | (with_reducible exact LeO.none _)
      | (with_reducible refine LeO.ite ?_ ?_)
      | (with_reducible refine LeO.bind ?_ (fun _ => ?_))
      | exact ih0 _ _ _ _ _ _
      | exact vivariumref11_Check.mono _ _ _ _ _
      | exact vivariumref11_answer.mono _ _ _ _ _ _
      | exact LeO.none _
      | refine LeO.ite ?_ ?_
      | refine LeO.bind ?_ (fun _ => ?_)
set_option maxHeartbeats 8000000 in
set_option maxRecDepth 100000 in
theorem vivariumref11_At.calls (k : Nat) (a0_0 : Int) (a0_1 : Int) (A0_2 : Option Addr) (c0_2 : Nat) (l0_2 : List (S49)) (a0_3 : Int) (A1 : Option Addr) (c1 : Nat) (l1 : List Int) (r1 : Int) (r2 : Int) (w : World) (hr0_2 : Kd.C k49 w A0_2 l0_2.length l0_2) (hc0_2 : l0_2.length ≤ c0_2) (hr1 : Kd.C (Kd.int .u8) w A1 l1.length l1) (hc1 : l1.length ≤ c1) (h : vivariumref11_At.f k a0_0 a0_1 l0_2 a0_3 l1 = some (r1, r2)) :
    Calls Tryd.prog 36 #[.agg #[.int .i64 a0_0, .int .i64 a0_1, .slice A0_2 l0_2.length c0_2, .int .i64 a0_3], .slice A1 l1.length c1] w fun e w' => e = .returned (.tuple #[.int .u8 r1, .int .i64 r2]) ∧ Below w.heap.size w w' := by
  have hu24 := Tryd.underlying24
  have HR0_2 := Aside0.mk hr0_2
  have HC0_2 := Aside0.mk hc0_2
  clear hr0_2 hc0_2
  have HR1 := Aside0.mk hr1
  have HC1 := Aside0.mk hc1
  clear hr1 hc1
  have HB := Aside0.mk (Below.refl w.heap.size w)
  have H : ((vivariumref11_Check.f k a0_0 a0_1 l0_2 a0_3).bind fun t156 => (if t156 = 0 then (if (l1.length : Int) = a0_1 then (vivariumref11_At.l0 k l1 0 a0_0 a0_1 l0_2 a0_3) else (some (0, 2))) else (some (0, t156)))) = some (r1, r2) := h
  clear h
  replace H := Option.bind_eq_some_iff.mp H
  obtain ⟨t156, A30, H⟩ := H
  replace H : (if t156 = 0 then (if (l1.length : Int) = a0_1 then (vivariumref11_At.l0 k l1 0 a0_0 a0_1 l0_2 a0_3) else (some (0, 2))) else (some (0, t156))) = some (r1, r2) := H
  have A3 := Aside0.mk A30
  clear A30
  by_cases c4 : t156 = 0
  · rw [if_pos c4] at H
    have c4b0 : (t156 == 0) = true := beq_iff_eq.mpr c4
    have c4b1 : (t156 != 0) = false := bne_eq_false_iff_eq.mpr c4
    clear c4
    by_cases c5 : (l1.length : Int) = a0_1
    · rw [if_pos c5] at H
      have c5b0 : ((l1.length : Int) == a0_1) = true := beq_iff_eq.mpr c5
      have c5b1 : ((l1.length : Int) != a0_1) = false := bne_eq_false_iff_eq.mpr c5
      clear c5
      have H' := Aside0.mk H
      clear H
      go_enter Tryd.func36, Tryd.ntmps36
      go_wp2_with (first | ((with_reducible refine gate_dst (N := 2) rfl ?_); refine box_event ?hg (N := 2) ?hd (cs := #[.int .i64 a0_0, .int .i64 a0_1, .slice A0_2 l0_2.length c0_2, .int .i64 a0_3]) (t := 24) ?hr ?_; (case hd => rfl); (case hg => rfl); (case hr => first | (go_simp; done) | (go_simp; rfl)); intro gb155 hg w6 hbox hb; have n0_ := Aside0.mk (below_step (by repeat (first | (with_reducible first | exact HB.out | apply below_alloc | apply pw_below_drewN | apply below_drew1) | exact HB.out)) hb); have n1_ := Aside0.mk (hbox); have n2_ := Aside0.mk ((by rw [hg]; exact (below_size (by repeat (first | (with_reducible first | exact HB.out | apply below_alloc | apply pw_below_drewN | apply below_drew1) | exact HB.out))) : w.heap.size ≤ gb155)); have n3_ := Aside0.mk ((by rw [hg]; exact (below_size (by repeat (first | (with_reducible first | exact HB.out | apply below_alloc | apply pw_below_drewN | apply below_drew1) | exact HB.out))) : w.heap.size ≤ gb155)); clear HB; have HB := n0_; have BK155 := n1_; have GW155 := n2_; have GE155 := n3_; clear n0_ n1_ n2_ n3_; clear hb hbox hg; have hcz7_0 : w6.cell? ⟨gb155, 0, none⟩ = some (.int .i64 a0_0) := (blk_cell BK155.out 0).trans rfl; have hcz7_1 : w6.cell? ⟨gb155, 1, none⟩ = some (.int .i64 a0_1) := (blk_cell BK155.out 1).trans rfl; have hcz7_2 : w6.cell? ⟨gb155, 2, none⟩ = some (.slice A0_2 l0_2.length c0_2) := (blk_cell BK155.out 2).trans rfl; have hcz7_3 : w6.cell? ⟨gb155, 3, none⟩ = some (.int .i64 a0_3) := (blk_cell BK155.out 3).trans rfl; have hfz7_0 := blk_frozen BK155.out 0; have hfz7_1 := blk_frozen BK155.out 1; have hfz7_2 := blk_frozen BK155.out 2; have hfz7_3 := blk_frozen BK155.out 3) | (go_at_call 39; (with_reducible refine (vivariumref11_Check.calls k a0_0 a0_1 _ _ l0_2 a0_3 t156 _ ?side1 ?side2 A3.out).mono ?_); (case side1 => repeat (first | exact (Kd.C_below HR0_2.out HB.out) | (with_reducible refine Kd.C_alloc ?_ _) | (with_reducible refine Kd.C_drewN ?_ _) | (with_reducible refine Kd.C_drew ?_))); (case side2 => exact HC0_2.out); rintro e w8 ⟨rfl, hb⟩; have n0_ := Aside0.mk (blk_below (g := gb155) (o := .cells #[.int .i64 a0_0, .int .i64 a0_1, .slice A0_2 l0_2.length c0_2, .int .i64 a0_3] 24 (0, 0)) (by (with_reducible repeat (first | refine blk_drewN ?_ _ | refine blk_drew ?_ | refine blk_alloc ?_ _)); exact BK155.out) hb); have n1_ := Aside0.mk (below_step (by repeat (first | (with_reducible first | exact HB.out | apply below_alloc | apply pw_below_drewN | apply below_drew1 | refine below_set ?_ GE155.out) | exact HB.out)) hb); clear BK155; clear HB; have BK155 := n0_; have HB := n1_; clear n0_ n1_; (try clear hb); (try clear hb2); (try clear hk); (try clear hi); have hcz9_0 : w8.cell? ⟨gb155, 0, none⟩ = some (.int .i64 a0_0) := (blk_cell BK155.out 0).trans rfl; have hcz9_1 : w8.cell? ⟨gb155, 1, none⟩ = some (.int .i64 a0_1) := (blk_cell BK155.out 1).trans rfl; have hcz9_2 : w8.cell? ⟨gb155, 2, none⟩ = some (.slice A0_2 l0_2.length c0_2) := (blk_cell BK155.out 2).trans rfl; have hcz9_3 : w8.cell? ⟨gb155, 3, none⟩ = some (.int .i64 a0_3) := (blk_cell BK155.out 3).trans rfl; have hfz9_0 := blk_frozen BK155.out 0; have hfz9_1 := blk_frozen BK155.out 1; have hfz9_2 := blk_frozen BK155.out 2; have hfz9_3 := blk_frozen BK155.out 3))
      repeat (go_quiet (first | ((with_reducible refine gate_dst (N := 2) rfl ?_); refine box_event ?hg (N := 2) ?hd (cs := #[.int .i64 a0_0, .int .i64 a0_1, .slice A0_2 l0_2.length c0_2, .int .i64 a0_3]) (t := 24) ?hr ?_; (case hd => rfl); (case hg => rfl); (case hr => first | (go_simp; done) | (go_simp; rfl)); intro gb155 hg w6 hbox hb; have n0_ := Aside0.mk (below_step (by repeat (first | (with_reducible first | exact HB.out | apply below_alloc | apply pw_below_drewN | apply below_drew1) | exact HB.out)) hb); have n1_ := Aside0.mk (hbox); have n2_ := Aside0.mk ((by rw [hg]; exact (below_size (by repeat (first | (with_reducible first | exact HB.out | apply below_alloc | apply pw_below_drewN | apply below_drew1) | exact HB.out))) : w.heap.size ≤ gb155)); have n3_ := Aside0.mk ((by rw [hg]; exact (below_size (by repeat (first | (with_reducible first | exact HB.out | apply below_alloc | apply pw_below_drewN | apply below_drew1) | exact HB.out))) : w.heap.size ≤ gb155)); clear HB; have HB := n0_; have BK155 := n1_; have GW155 := n2_; have GE155 := n3_; clear n0_ n1_ n2_ n3_; clear hb hbox hg; have hcz7_0 : w6.cell? ⟨gb155, 0, none⟩ = some (.int .i64 a0_0) := (blk_cell BK155.out 0).trans rfl; have hcz7_1 : w6.cell? ⟨gb155, 1, none⟩ = some (.int .i64 a0_1) := (blk_cell BK155.out 1).trans rfl; have hcz7_2 : w6.cell? ⟨gb155, 2, none⟩ = some (.slice A0_2 l0_2.length c0_2) := (blk_cell BK155.out 2).trans rfl; have hcz7_3 : w6.cell? ⟨gb155, 3, none⟩ = some (.int .i64 a0_3) := (blk_cell BK155.out 3).trans rfl; have hfz7_0 := blk_frozen BK155.out 0; have hfz7_1 := blk_frozen BK155.out 1; have hfz7_2 := blk_frozen BK155.out 2; have hfz7_3 := blk_frozen BK155.out 3) | (go_at_call 39; (with_reducible refine (vivariumref11_Check.calls k a0_0 a0_1 _ _ l0_2 a0_3 t156 _ ?side1 ?side2 A3.out).mono ?_); (case side1 => repeat (first | exact (Kd.C_below HR0_2.out HB.out) | (with_reducible refine Kd.C_alloc ?_ _) | (with_reducible refine Kd.C_drewN ?_ _) | (with_reducible refine Kd.C_drew ?_))); (case side2 => exact HC0_2.out); rintro e w8 ⟨rfl, hb⟩; have n0_ := Aside0.mk (blk_below (g := gb155) (o := .cells #[.int .i64 a0_0, .int .i64 a0_1, .slice A0_2 l0_2.length c0_2, .int .i64 a0_3] 24 (0, 0)) (by (with_reducible repeat (first | refine blk_drewN ?_ _ | refine blk_drew ?_ | refine blk_alloc ?_ _)); exact BK155.out) hb); have n1_ := Aside0.mk (below_step (by repeat (first | (with_reducible first | exact HB.out | apply below_alloc | apply pw_below_drewN | apply below_drew1 | refine below_set ?_ GE155.out) | exact HB.out)) hb); clear BK155; clear HB; have BK155 := n0_; have HB := n1_; clear n0_ n1_; (try clear hb); (try clear hb2); (try clear hk); (try clear hi); have hcz9_0 : w8.cell? ⟨gb155, 0, none⟩ = some (.int .i64 a0_0) := (blk_cell BK155.out 0).trans rfl; have hcz9_1 : w8.cell? ⟨gb155, 1, none⟩ = some (.int .i64 a0_1) := (blk_cell BK155.out 1).trans rfl; have hcz9_2 : w8.cell? ⟨gb155, 2, none⟩ = some (.slice A0_2 l0_2.length c0_2) := (blk_cell BK155.out 2).trans rfl; have hcz9_3 : w8.cell? ⟨gb155, 3, none⟩ = some (.int .i64 a0_3) := (blk_cell BK155.out 3).trans rfl; have hfz9_0 := blk_frozen BK155.out 0; have hfz9_1 := blk_frozen BK155.out 1; have hfz9_2 := blk_frozen BK155.out 2; have hfz9_3 := blk_frozen BK155.out 3)); try go_wp2_with (first | ((with_reducible refine gate_dst (N := 2) rfl ?_); refine box_event ?hg (N := 2) ?hd (cs := #[.int .i64 a0_0, .int .i64 a0_1, .slice A0_2 l0_2.length c0_2, .int .i64 a0_3]) (t := 24) ?hr ?_; (case hd => rfl); (case hg => rfl); (case hr => first | (go_simp; done) | (go_simp; rfl)); intro gb155 hg w6 hbox hb; have n0_ := Aside0.mk (below_step (by repeat (first | (with_reducible first | exact HB.out | apply below_alloc | apply pw_below_drewN | apply below_drew1) | exact HB.out)) hb); have n1_ := Aside0.mk (hbox); have n2_ := Aside0.mk ((by rw [hg]; exact (below_size (by repeat (first | (with_reducible first | exact HB.out | apply below_alloc | apply pw_below_drewN | apply below_drew1) | exact HB.out))) : w.heap.size ≤ gb155)); have n3_ := Aside0.mk ((by rw [hg]; exact (below_size (by repeat (first | (with_reducible first | exact HB.out | apply below_alloc | apply pw_below_drewN | apply below_drew1) | exact HB.out))) : w.heap.size ≤ gb155)); clear HB; have HB := n0_; have BK155 := n1_; have GW155 := n2_; have GE155 := n3_; clear n0_ n1_ n2_ n3_; clear hb hbox hg; have hcz7_0 : w6.cell? ⟨gb155, 0, none⟩ = some (.int .i64 a0_0) := (blk_cell BK155.out 0).trans rfl; have hcz7_1 : w6.cell? ⟨gb155, 1, none⟩ = some (.int .i64 a0_1) := (blk_cell BK155.out 1).trans rfl; have hcz7_2 : w6.cell? ⟨gb155, 2, none⟩ = some (.slice A0_2 l0_2.length c0_2) := (blk_cell BK155.out 2).trans rfl; have hcz7_3 : w6.cell? ⟨gb155, 3, none⟩ = some (.int .i64 a0_3) := (blk_cell BK155.out 3).trans rfl; have hfz7_0 := blk_frozen BK155.out 0; have hfz7_1 := blk_frozen BK155.out 1; have hfz7_2 := blk_frozen BK155.out 2; have hfz7_3 := blk_frozen BK155.out 3) | (go_at_call 39; (with_reducible refine (vivariumref11_Check.calls k a0_0 a0_1 _ _ l0_2 a0_3 t156 _ ?side1 ?side2 A3.out).mono ?_); (case side1 => repeat (first | exact (Kd.C_below HR0_2.out HB.out) | (with_reducible refine Kd.C_alloc ?_ _) | (with_reducible refine Kd.C_drewN ?_ _) | (with_reducible refine Kd.C_drew ?_))); (case side2 => exact HC0_2.out); rintro e w8 ⟨rfl, hb⟩; have n0_ := Aside0.mk (blk_below (g := gb155) (o := .cells #[.int .i64 a0_0, .int .i64 a0_1, .slice A0_2 l0_2.length c0_2, .int .i64 a0_3] 24 (0, 0)) (by (with_reducible repeat (first | refine blk_drewN ?_ _ | refine blk_drew ?_ | refine blk_alloc ?_ _)); exact BK155.out) hb); have n1_ := Aside0.mk (below_step (by repeat (first | (with_reducible first | exact HB.out | apply below_alloc | apply pw_below_drewN | apply below_drew1 | refine below_set ?_ GE155.out) | exact HB.out)) hb); clear BK155; clear HB; have BK155 := n0_; have HB := n1_; clear n0_ n1_; (try clear hb); (try clear hb2); (try clear hk); (try clear hi); have hcz9_0 : w8.cell? ⟨gb155, 0, none⟩ = some (.int .i64 a0_0) := (blk_cell BK155.out 0).trans rfl; have hcz9_1 : w8.cell? ⟨gb155, 1, none⟩ = some (.int .i64 a0_1) := (blk_cell BK155.out 1).trans rfl; have hcz9_2 : w8.cell? ⟨gb155, 2, none⟩ = some (.slice A0_2 l0_2.length c0_2) := (blk_cell BK155.out 2).trans rfl; have hcz9_3 : w8.cell? ⟨gb155, 3, none⟩ = some (.int .i64 a0_3) := (blk_cell BK155.out 3).trans rfl; have hfz9_0 := blk_frozen BK155.out 0; have hfz9_1 := blk_frozen BK155.out 1; have hfz9_2 := blk_frozen BK155.out 2; have hfz9_3 := blk_frozen BK155.out 3)))
      go_loopg [7] k (fun kq v7 w' => ∃ (x7_1 : Int), v7 = .int .i64 x7_1 ∧ Aside0 (vivariumref11_At.l0 kq l1 x7_1 a0_0 a0_1 l0_2 a0_3 = some (r1, r2)) ∧ Aside0 (kq ≤ k) ∧ Aside0 (w'.heap[gb155]? = some (.cells #[.int .i64 a0_0, .int .i64 a0_1, (.slice A0_2 l0_2.length c0_2), .int .i64 a0_3] 24 (0, 0))) ∧ Aside0 (Below w.heap.size w w'))
      case atStart => exact ⟨(0), (by first | rfl | (simp; done) | (simp [*]; done) | (simp [wrap64]; done)), H', ⟨Nat.le_refl _⟩, ⟨by (with_reducible repeat (first | refine blk_drewN ?_ _ | refine blk_drew ?_ | refine blk_alloc ?_ _)); exact BK155.out⟩, ⟨by repeat (first | (with_reducible first | exact HB.out | apply below_alloc | apply pw_below_drewN | apply below_drew1 | refine below_set ?_ GE155.out) | exact HB.out)⟩⟩
      case round =>
        clear H'
        try clear c1
        try clear p2
        try clear c3
        try clear c4
        try clear c4b0
        try clear c4b1
        try clear c5
        try clear c5b0
        try clear c5b1
        try clear hcz7_0
        try clear hcz7_1
        try clear hcz7_2
        try clear hcz7_3
        try clear hcz9_0
        try clear hcz9_1
        try clear hcz9_2
        try clear hcz9_3
        try clear hfz7_0
        try clear hfz7_1
        try clear hfz7_2
        try clear hfz7_3
        try clear hfz9_0
        try clear hfz9_1
        try clear hfz9_2
        try clear hfz9_3
        obtain ⟨x7_1, rfl, HA, HK1, BK155, HB⟩ := hrel
        cases gk with
        | zero => exact absurd HA.out (by simp [vivariumref11_At.l0])
        | succ k1 =>
          have H := HA.out
          clear HA
          simp only [vivariumref11_At.l0] at H
          by_cases c10 : x7_1 < (l1.length : Int)
          · rw [if_pos c10] at H
            have c10b0 : decide (x7_1 < (l1.length : Int)) = true := decide_eq_true c10
            clear c10
            by_cases c11 : 0 ≤ x7_1
            · rw [if_pos c11] at H
              have c11b0 : decide (0 ≤ x7_1) = true := decide_eq_true c11
              clear c11
              by_cases c12 : (wrap64 (rd l1 x7_1)) ≥ a0_0
              · rw [if_pos c12] at H
                have c12b0 : decide (a0_0 ≤ (wrap64 (rd l1 x7_1))) = true := decide_eq_true c12
                clear c12
                simp only [Option.some.injEq, Prod.mk.injEq] at H
                obtain ⟨rfl, rfl⟩ := H
                have p157 : 0 ≤ (x7_1 : Int) := of_decide_eq_true (by first | (with_reducible assumption) | assumption)
                have q157 : x7_1 < (l1.length : Int) := of_decide_eq_true (by first | (with_reducible assumption) | assumption)
                obtain ⟨ad157, e157, hx157_0⟩ := Kd.at_int HR1.out x7_1 p157 q157
                cases e157
                replace hx157_0 := (HB.out.cell (World.block_lt_of_cell? w _ hx157_0)).trans hx157_0
                replace p157 := eq_true p157
                replace q157 := eq_true q157
                have hcz13_0 : wr.cell? ⟨gb155, 0, none⟩ = some (.int .i64 a0_0) := (blk_cell BK155.out 0).trans rfl
                have hcz13_1 : wr.cell? ⟨gb155, 1, none⟩ = some (.int .i64 a0_1) := (blk_cell BK155.out 1).trans rfl
                have hcz13_2 : wr.cell? ⟨gb155, 2, none⟩ = some (.slice A0_2 l0_2.length c0_2) := (blk_cell BK155.out 2).trans rfl
                have hcz13_3 : wr.cell? ⟨gb155, 3, none⟩ = some (.int .i64 a0_3) := (blk_cell BK155.out 3).trans rfl
                have hfz13_0 := blk_frozen BK155.out 0
                have hfz13_1 := blk_frozen BK155.out 1
                have hfz13_2 := blk_frozen BK155.out 2
                have hfz13_3 := blk_frozen BK155.out 3
                go_wp2
                repeat (go_quiet (fail); try go_wp2)
                go_ret2
                exact ⟨by first | rfl | (simp [errW_none, errW_some] <;> rfl) | (simp [*, errW_none, errW_some] <;> rfl), by repeat (first | (with_reducible first | exact HB.out | apply below_alloc | apply pw_below_drewN | apply below_drew1 | refine below_set ?_ GE155.out) | exact HB.out)⟩
              · rw [if_neg c12] at H
                have c12b0 : decide (a0_0 ≤ (wrap64 (rd l1 x7_1))) = false := decide_eq_false c12
                clear c12
                have H' := Aside0.mk H
                clear H
                have p157 : 0 ≤ (x7_1 : Int) := of_decide_eq_true (by first | (with_reducible assumption) | assumption)
                have q157 : x7_1 < (l1.length : Int) := of_decide_eq_true (by first | (with_reducible assumption) | assumption)
                obtain ⟨ad157, e157, hx157_0⟩ := Kd.at_int HR1.out x7_1 p157 q157
                cases e157
                replace hx157_0 := (HB.out.cell (World.block_lt_of_cell? w _ hx157_0)).trans hx157_0
                replace p157 := eq_true p157
                replace q157 := eq_true q157
                have hcz14_0 : wr.cell? ⟨gb155, 0, none⟩ = some (.int .i64 a0_0) := (blk_cell BK155.out 0).trans rfl
                have hcz14_1 : wr.cell? ⟨gb155, 1, none⟩ = some (.int .i64 a0_1) := (blk_cell BK155.out 1).trans rfl
                have hcz14_2 : wr.cell? ⟨gb155, 2, none⟩ = some (.slice A0_2 l0_2.length c0_2) := (blk_cell BK155.out 2).trans rfl
                have hcz14_3 : wr.cell? ⟨gb155, 3, none⟩ = some (.int .i64 a0_3) := (blk_cell BK155.out 3).trans rfl
                have hfz14_0 := blk_frozen BK155.out 0
                have hfz14_1 := blk_frozen BK155.out 1
                have hfz14_2 := blk_frozen BK155.out 2
                have hfz14_3 := blk_frozen BK155.out 3
                go_wp2
                repeat (go_quiet (fail); try go_wp2)
                go_roundg k1
                case measure => have := HK1.out; omega
                case rel => exact ⟨(wrap64 (x7_1 + 1)), (by first | rfl | (simp; done) | (simp [*]; done) | (simp [wrap64]; done)), H', ⟨by have := HK1.out; omega⟩, ⟨by (with_reducible repeat (first | refine blk_drewN ?_ _ | refine blk_drew ?_ | refine blk_alloc ?_ _)); exact BK155.out⟩, ⟨by repeat (first | (with_reducible first | exact HB.out | apply below_alloc | apply pw_below_drewN | apply below_drew1 | refine below_set ?_ GE155.out) | exact HB.out)⟩⟩
            · rw [if_neg c11] at H
              exact absurd H (by simp)
          · rw [if_neg c10] at H
            have c10b0 : decide (x7_1 < (l1.length : Int)) = false := decide_eq_false c10
            clear c10
            replace H := Option.bind_eq_some_iff.mp H
            obtain ⟨t158, A150, H⟩ := H
            replace H : (some (t158, 0)) = some (r1, r2) := H
            have A15 := Aside0.mk A150
            clear A150
            simp only [Option.some.injEq, Prod.mk.injEq] at H
            obtain ⟨rfl, rfl⟩ := H
            have hcz16_0 : wr.cell? ⟨gb155, 0, none⟩ = some (.int .i64 a0_0) := (blk_cell BK155.out 0).trans rfl
            have hcz16_1 : wr.cell? ⟨gb155, 1, none⟩ = some (.int .i64 a0_1) := (blk_cell BK155.out 1).trans rfl
            have hcz16_2 : wr.cell? ⟨gb155, 2, none⟩ = some (.slice A0_2 l0_2.length c0_2) := (blk_cell BK155.out 2).trans rfl
            have hcz16_3 : wr.cell? ⟨gb155, 3, none⟩ = some (.int .i64 a0_3) := (blk_cell BK155.out 3).trans rfl
            have hfz16_0 := blk_frozen BK155.out 0
            have hfz16_1 := blk_frozen BK155.out 1
            have hfz16_2 := blk_frozen BK155.out 2
            have hfz16_3 := blk_frozen BK155.out 3
            go_wp2_with (first | (go_at_call 73; (with_reducible refine (vivariumref11_answer.calls k1 a0_0 a0_1 _ _ l0_2 a0_3 _ _ l1 t158 _ ?side1 ?side2 ?side3 ?side4 A15.out).mono ?_); (case side1 => repeat (first | exact (Kd.C_below HR0_2.out HB.out) | (with_reducible refine Kd.C_alloc ?_ _) | (with_reducible refine Kd.C_drewN ?_ _) | (with_reducible refine Kd.C_drew ?_))); (case side2 => exact HC0_2.out); (case side3 => repeat (first | exact (Kd.C_below HR1.out HB.out) | (with_reducible refine Kd.C_alloc ?_ _) | (with_reducible refine Kd.C_drewN ?_ _) | (with_reducible refine Kd.C_drew ?_))); (case side4 => exact HC1.out); rintro e w17 ⟨rfl, hb⟩; have n0_ := Aside0.mk (blk_below (g := gb155) (o := .cells #[.int .i64 a0_0, .int .i64 a0_1, .slice A0_2 l0_2.length c0_2, .int .i64 a0_3] 24 (0, 0)) (by (with_reducible repeat (first | refine blk_drewN ?_ _ | refine blk_drew ?_ | refine blk_alloc ?_ _)); exact BK155.out) hb); have n1_ := Aside0.mk (below_step (by repeat (first | (with_reducible first | exact HB.out | apply below_alloc | apply pw_below_drewN | apply below_drew1 | refine below_set ?_ GE155.out) | exact HB.out)) hb); clear BK155; clear HB; have BK155 := n0_; have HB := n1_; clear n0_ n1_; (try clear hb); (try clear hb2); (try clear hk); (try clear hi)))
            repeat (go_quiet (first | (go_at_call 73; (with_reducible refine (vivariumref11_answer.calls k1 a0_0 a0_1 _ _ l0_2 a0_3 _ _ l1 t158 _ ?side1 ?side2 ?side3 ?side4 A15.out).mono ?_); (case side1 => repeat (first | exact (Kd.C_below HR0_2.out HB.out) | (with_reducible refine Kd.C_alloc ?_ _) | (with_reducible refine Kd.C_drewN ?_ _) | (with_reducible refine Kd.C_drew ?_))); (case side2 => exact HC0_2.out); (case side3 => repeat (first | exact (Kd.C_below HR1.out HB.out) | (with_reducible refine Kd.C_alloc ?_ _) | (with_reducible refine Kd.C_drewN ?_ _) | (with_reducible refine Kd.C_drew ?_))); (case side4 => exact HC1.out); rintro e w17 ⟨rfl, hb⟩; have n0_ := Aside0.mk (blk_below (g := gb155) (o := .cells #[.int .i64 a0_0, .int .i64 a0_1, .slice A0_2 l0_2.length c0_2, .int .i64 a0_3] 24 (0, 0)) (by (with_reducible repeat (first | refine blk_drewN ?_ _ | refine blk_drew ?_ | refine blk_alloc ?_ _)); exact BK155.out) hb); have n1_ := Aside0.mk (below_step (by repeat (first | (with_reducible first | exact HB.out | apply below_alloc | apply pw_below_drewN | apply below_drew1 | refine below_set ?_ GE155.out) | exact HB.out)) hb); clear BK155; clear HB; have BK155 := n0_; have HB := n1_; clear n0_ n1_; (try clear hb); (try clear hb2); (try clear hk); (try clear hi))); try go_wp2_with (first | (go_at_call 73; (with_reducible refine (vivariumref11_answer.calls k1 a0_0 a0_1 _ _ l0_2 a0_3 _ _ l1 t158 _ ?side1 ?side2 ?side3 ?side4 A15.out).mono ?_); (case side1 => repeat (first | exact (Kd.C_below HR0_2.out HB.out) | (with_reducible refine Kd.C_alloc ?_ _) | (with_reducible refine Kd.C_drewN ?_ _) | (with_reducible refine Kd.C_drew ?_))); (case side2 => exact HC0_2.out); (case side3 => repeat (first | exact (Kd.C_below HR1.out HB.out) | (with_reducible refine Kd.C_alloc ?_ _) | (with_reducible refine Kd.C_drewN ?_ _) | (with_reducible refine Kd.C_drew ?_))); (case side4 => exact HC1.out); rintro e w17 ⟨rfl, hb⟩; have n0_ := Aside0.mk (blk_below (g := gb155) (o := .cells #[.int .i64 a0_0, .int .i64 a0_1, .slice A0_2 l0_2.length c0_2, .int .i64 a0_3] 24 (0, 0)) (by (with_reducible repeat (first | refine blk_drewN ?_ _ | refine blk_drew ?_ | refine blk_alloc ?_ _)); exact BK155.out) hb); have n1_ := Aside0.mk (below_step (by repeat (first | (with_reducible first | exact HB.out | apply below_alloc | apply pw_below_drewN | apply below_drew1 | refine below_set ?_ GE155.out) | exact HB.out)) hb); clear BK155; clear HB; have BK155 := n0_; have HB := n1_; clear n0_ n1_; (try clear hb); (try clear hb2); (try clear hk); (try clear hi))))
            go_ret2
            exact ⟨by first | rfl | (simp [errW_none, errW_some] <;> rfl) | (simp [*, errW_none, errW_some] <;> rfl), by repeat (first | (with_reducible first | exact HB.out | apply below_alloc | apply pw_below_drewN | apply below_drew1 | refine below_set ?_ GE155.out) | exact HB.out)⟩
    · rw [if_neg c5] at H
      have c5b0 : ((l1.length : Int) == a0_1) = false := beq_eq_false_iff_ne.mpr c5
      have c5b1 : ((l1.length : Int) != a0_1) = true := bne_iff_ne.mpr c5
      simp only [Option.some.injEq, Prod.mk.injEq] at H
      obtain ⟨rfl, rfl⟩ := H
      go_enter Tryd.func36, Tryd.ntmps36
      go_wp2_with (first | ((with_reducible refine gate_dst (N := 2) rfl ?_); refine box_event ?hg (N := 2) ?hd (cs := #[.int .i64 a0_0, .int .i64 a0_1, .slice A0_2 l0_2.length c0_2, .int .i64 a0_3]) (t := 24) ?hr ?_; (case hd => rfl); (case hg => rfl); (case hr => first | (go_simp; done) | (go_simp; rfl)); intro gb155 hg w18 hbox hb; have n0_ := Aside0.mk (below_step (by repeat (first | (with_reducible first | exact HB.out | apply below_alloc | apply pw_below_drewN | apply below_drew1) | exact HB.out)) hb); have n1_ := Aside0.mk (hbox); have n2_ := Aside0.mk ((by rw [hg]; exact (below_size (by repeat (first | (with_reducible first | exact HB.out | apply below_alloc | apply pw_below_drewN | apply below_drew1) | exact HB.out))) : w.heap.size ≤ gb155)); have n3_ := Aside0.mk ((by rw [hg]; exact (below_size (by repeat (first | (with_reducible first | exact HB.out | apply below_alloc | apply pw_below_drewN | apply below_drew1) | exact HB.out))) : w.heap.size ≤ gb155)); clear HB; have HB := n0_; have BK155 := n1_; have GW155 := n2_; have GE155 := n3_; clear n0_ n1_ n2_ n3_; clear hb hbox hg; have hcz19_0 : w18.cell? ⟨gb155, 0, none⟩ = some (.int .i64 a0_0) := (blk_cell BK155.out 0).trans rfl; have hcz19_1 : w18.cell? ⟨gb155, 1, none⟩ = some (.int .i64 a0_1) := (blk_cell BK155.out 1).trans rfl; have hcz19_2 : w18.cell? ⟨gb155, 2, none⟩ = some (.slice A0_2 l0_2.length c0_2) := (blk_cell BK155.out 2).trans rfl; have hcz19_3 : w18.cell? ⟨gb155, 3, none⟩ = some (.int .i64 a0_3) := (blk_cell BK155.out 3).trans rfl; have hfz19_0 := blk_frozen BK155.out 0; have hfz19_1 := blk_frozen BK155.out 1; have hfz19_2 := blk_frozen BK155.out 2; have hfz19_3 := blk_frozen BK155.out 3) | (go_at_call 39; (with_reducible refine (vivariumref11_Check.calls k a0_0 a0_1 _ _ l0_2 a0_3 t156 _ ?side1 ?side2 A3.out).mono ?_); (case side1 => repeat (first | exact (Kd.C_below HR0_2.out HB.out) | (with_reducible refine Kd.C_alloc ?_ _) | (with_reducible refine Kd.C_drewN ?_ _) | (with_reducible refine Kd.C_drew ?_))); (case side2 => exact HC0_2.out); rintro e w20 ⟨rfl, hb⟩; have n0_ := Aside0.mk (blk_below (g := gb155) (o := .cells #[.int .i64 a0_0, .int .i64 a0_1, .slice A0_2 l0_2.length c0_2, .int .i64 a0_3] 24 (0, 0)) (by (with_reducible repeat (first | refine blk_drewN ?_ _ | refine blk_drew ?_ | refine blk_alloc ?_ _)); exact BK155.out) hb); have n1_ := Aside0.mk (below_step (by repeat (first | (with_reducible first | exact HB.out | apply below_alloc | apply pw_below_drewN | apply below_drew1 | refine below_set ?_ GE155.out) | exact HB.out)) hb); clear BK155; clear HB; have BK155 := n0_; have HB := n1_; clear n0_ n1_; (try clear hb); (try clear hb2); (try clear hk); (try clear hi); have hcz21_0 : w20.cell? ⟨gb155, 0, none⟩ = some (.int .i64 a0_0) := (blk_cell BK155.out 0).trans rfl; have hcz21_1 : w20.cell? ⟨gb155, 1, none⟩ = some (.int .i64 a0_1) := (blk_cell BK155.out 1).trans rfl; have hcz21_2 : w20.cell? ⟨gb155, 2, none⟩ = some (.slice A0_2 l0_2.length c0_2) := (blk_cell BK155.out 2).trans rfl; have hcz21_3 : w20.cell? ⟨gb155, 3, none⟩ = some (.int .i64 a0_3) := (blk_cell BK155.out 3).trans rfl; have hfz21_0 := blk_frozen BK155.out 0; have hfz21_1 := blk_frozen BK155.out 1; have hfz21_2 := blk_frozen BK155.out 2; have hfz21_3 := blk_frozen BK155.out 3))
      repeat (go_quiet (first | ((with_reducible refine gate_dst (N := 2) rfl ?_); refine box_event ?hg (N := 2) ?hd (cs := #[.int .i64 a0_0, .int .i64 a0_1, .slice A0_2 l0_2.length c0_2, .int .i64 a0_3]) (t := 24) ?hr ?_; (case hd => rfl); (case hg => rfl); (case hr => first | (go_simp; done) | (go_simp; rfl)); intro gb155 hg w18 hbox hb; have n0_ := Aside0.mk (below_step (by repeat (first | (with_reducible first | exact HB.out | apply below_alloc | apply pw_below_drewN | apply below_drew1) | exact HB.out)) hb); have n1_ := Aside0.mk (hbox); have n2_ := Aside0.mk ((by rw [hg]; exact (below_size (by repeat (first | (with_reducible first | exact HB.out | apply below_alloc | apply pw_below_drewN | apply below_drew1) | exact HB.out))) : w.heap.size ≤ gb155)); have n3_ := Aside0.mk ((by rw [hg]; exact (below_size (by repeat (first | (with_reducible first | exact HB.out | apply below_alloc | apply pw_below_drewN | apply below_drew1) | exact HB.out))) : w.heap.size ≤ gb155)); clear HB; have HB := n0_; have BK155 := n1_; have GW155 := n2_; have GE155 := n3_; clear n0_ n1_ n2_ n3_; clear hb hbox hg; have hcz19_0 : w18.cell? ⟨gb155, 0, none⟩ = some (.int .i64 a0_0) := (blk_cell BK155.out 0).trans rfl; have hcz19_1 : w18.cell? ⟨gb155, 1, none⟩ = some (.int .i64 a0_1) := (blk_cell BK155.out 1).trans rfl; have hcz19_2 : w18.cell? ⟨gb155, 2, none⟩ = some (.slice A0_2 l0_2.length c0_2) := (blk_cell BK155.out 2).trans rfl; have hcz19_3 : w18.cell? ⟨gb155, 3, none⟩ = some (.int .i64 a0_3) := (blk_cell BK155.out 3).trans rfl; have hfz19_0 := blk_frozen BK155.out 0; have hfz19_1 := blk_frozen BK155.out 1; have hfz19_2 := blk_frozen BK155.out 2; have hfz19_3 := blk_frozen BK155.out 3) | (go_at_call 39; (with_reducible refine (vivariumref11_Check.calls k a0_0 a0_1 _ _ l0_2 a0_3 t156 _ ?side1 ?side2 A3.out).mono ?_); (case side1 => repeat (first | exact (Kd.C_below HR0_2.out HB.out) | (with_reducible refine Kd.C_alloc ?_ _) | (with_reducible refine Kd.C_drewN ?_ _) | (with_reducible refine Kd.C_drew ?_))); (case side2 => exact HC0_2.out); rintro e w20 ⟨rfl, hb⟩; have n0_ := Aside0.mk (blk_below (g := gb155) (o := .cells #[.int .i64 a0_0, .int .i64 a0_1, .slice A0_2 l0_2.length c0_2, .int .i64 a0_3] 24 (0, 0)) (by (with_reducible repeat (first | refine blk_drewN ?_ _ | refine blk_drew ?_ | refine blk_alloc ?_ _)); exact BK155.out) hb); have n1_ := Aside0.mk (below_step (by repeat (first | (with_reducible first | exact HB.out | apply below_alloc | apply pw_below_drewN | apply below_drew1 | refine below_set ?_ GE155.out) | exact HB.out)) hb); clear BK155; clear HB; have BK155 := n0_; have HB := n1_; clear n0_ n1_; (try clear hb); (try clear hb2); (try clear hk); (try clear hi); have hcz21_0 : w20.cell? ⟨gb155, 0, none⟩ = some (.int .i64 a0_0) := (blk_cell BK155.out 0).trans rfl; have hcz21_1 : w20.cell? ⟨gb155, 1, none⟩ = some (.int .i64 a0_1) := (blk_cell BK155.out 1).trans rfl; have hcz21_2 : w20.cell? ⟨gb155, 2, none⟩ = some (.slice A0_2 l0_2.length c0_2) := (blk_cell BK155.out 2).trans rfl; have hcz21_3 : w20.cell? ⟨gb155, 3, none⟩ = some (.int .i64 a0_3) := (blk_cell BK155.out 3).trans rfl; have hfz21_0 := blk_frozen BK155.out 0; have hfz21_1 := blk_frozen BK155.out 1; have hfz21_2 := blk_frozen BK155.out 2; have hfz21_3 := blk_frozen BK155.out 3)); try go_wp2_with (first | ((with_reducible refine gate_dst (N := 2) rfl ?_); refine box_event ?hg (N := 2) ?hd (cs := #[.int .i64 a0_0, .int .i64 a0_1, .slice A0_2 l0_2.length c0_2, .int .i64 a0_3]) (t := 24) ?hr ?_; (case hd => rfl); (case hg => rfl); (case hr => first | (go_simp; done) | (go_simp; rfl)); intro gb155 hg w18 hbox hb; have n0_ := Aside0.mk (below_step (by repeat (first | (with_reducible first | exact HB.out | apply below_alloc | apply pw_below_drewN | apply below_drew1) | exact HB.out)) hb); have n1_ := Aside0.mk (hbox); have n2_ := Aside0.mk ((by rw [hg]; exact (below_size (by repeat (first | (with_reducible first | exact HB.out | apply below_alloc | apply pw_below_drewN | apply below_drew1) | exact HB.out))) : w.heap.size ≤ gb155)); have n3_ := Aside0.mk ((by rw [hg]; exact (below_size (by repeat (first | (with_reducible first | exact HB.out | apply below_alloc | apply pw_below_drewN | apply below_drew1) | exact HB.out))) : w.heap.size ≤ gb155)); clear HB; have HB := n0_; have BK155 := n1_; have GW155 := n2_; have GE155 := n3_; clear n0_ n1_ n2_ n3_; clear hb hbox hg; have hcz19_0 : w18.cell? ⟨gb155, 0, none⟩ = some (.int .i64 a0_0) := (blk_cell BK155.out 0).trans rfl; have hcz19_1 : w18.cell? ⟨gb155, 1, none⟩ = some (.int .i64 a0_1) := (blk_cell BK155.out 1).trans rfl; have hcz19_2 : w18.cell? ⟨gb155, 2, none⟩ = some (.slice A0_2 l0_2.length c0_2) := (blk_cell BK155.out 2).trans rfl; have hcz19_3 : w18.cell? ⟨gb155, 3, none⟩ = some (.int .i64 a0_3) := (blk_cell BK155.out 3).trans rfl; have hfz19_0 := blk_frozen BK155.out 0; have hfz19_1 := blk_frozen BK155.out 1; have hfz19_2 := blk_frozen BK155.out 2; have hfz19_3 := blk_frozen BK155.out 3) | (go_at_call 39; (with_reducible refine (vivariumref11_Check.calls k a0_0 a0_1 _ _ l0_2 a0_3 t156 _ ?side1 ?side2 A3.out).mono ?_); (case side1 => repeat (first | exact (Kd.C_below HR0_2.out HB.out) | (with_reducible refine Kd.C_alloc ?_ _) | (with_reducible refine Kd.C_drewN ?_ _) | (with_reducible refine Kd.C_drew ?_))); (case side2 => exact HC0_2.out); rintro e w20 ⟨rfl, hb⟩; have n0_ := Aside0.mk (blk_below (g := gb155) (o := .cells #[.int .i64 a0_0, .int .i64 a0_1, .slice A0_2 l0_2.length c0_2, .int .i64 a0_3] 24 (0, 0)) (by (with_reducible repeat (first | refine blk_drewN ?_ _ | refine blk_drew ?_ | refine blk_alloc ?_ _)); exact BK155.out) hb); have n1_ := Aside0.mk (below_step (by repeat (first | (with_reducible first | exact HB.out | apply below_alloc | apply pw_below_drewN | apply below_drew1 | refine below_set ?_ GE155.out) | exact HB.out)) hb); clear BK155; clear HB; have BK155 := n0_; have HB := n1_; clear n0_ n1_; (try clear hb); (try clear hb2); (try clear hk); (try clear hi); have hcz21_0 : w20.cell? ⟨gb155, 0, none⟩ = some (.int .i64 a0_0) := (blk_cell BK155.out 0).trans rfl; have hcz21_1 : w20.cell? ⟨gb155, 1, none⟩ = some (.int .i64 a0_1) := (blk_cell BK155.out 1).trans rfl; have hcz21_2 : w20.cell? ⟨gb155, 2, none⟩ = some (.slice A0_2 l0_2.length c0_2) := (blk_cell BK155.out 2).trans rfl; have hcz21_3 : w20.cell? ⟨gb155, 3, none⟩ = some (.int .i64 a0_3) := (blk_cell BK155.out 3).trans rfl; have hfz21_0 := blk_frozen BK155.out 0; have hfz21_1 := blk_frozen BK155.out 1; have hfz21_2 := blk_frozen BK155.out 2; have hfz21_3 := blk_frozen BK155.out 3)))
      go_ret2
      exact ⟨by first | rfl | (simp [errW_none, errW_some] <;> rfl) | (simp [*, errW_none, errW_some] <;> rfl), by repeat (first | (with_reducible first | exact HB.out | apply below_alloc | apply pw_below_drewN | apply below_drew1 | refine below_set ?_ GE155.out) | exact HB.out)⟩
  · rw [if_neg c4] at H
    have c4b0 : (t156 == 0) = false := beq_eq_false_iff_ne.mpr c4
    have c4b1 : (t156 != 0) = true := bne_iff_ne.mpr c4
    simp only [Option.some.injEq, Prod.mk.injEq] at H
    obtain ⟨rfl, rfl⟩ := H
    go_enter Tryd.func36, Tryd.ntmps36
    go_wp2_with (first | ((with_reducible refine gate_dst (N := 2) rfl ?_); refine box_event ?hg (N := 2) ?hd (cs := #[.int .i64 a0_0, .int .i64 a0_1, .slice A0_2 l0_2.length c0_2, .int .i64 a0_3]) (t := 24) ?hr ?_; (case hd => rfl); (case hg => rfl); (case hr => first | (go_simp; done) | (go_simp; rfl)); intro gb155 hg w22 hbox hb; have n0_ := Aside0.mk (below_step (by repeat (first | (with_reducible first | exact HB.out | apply below_alloc | apply pw_below_drewN | apply below_drew1) | exact HB.out)) hb); have n1_ := Aside0.mk (hbox); have n2_ := Aside0.mk ((by rw [hg]; exact (below_size (by repeat (first | (with_reducible first | exact HB.out | apply below_alloc | apply pw_below_drewN | apply below_drew1) | exact HB.out))) : w.heap.size ≤ gb155)); have n3_ := Aside0.mk ((by rw [hg]; exact (below_size (by repeat (first | (with_reducible first | exact HB.out | apply below_alloc | apply pw_below_drewN | apply below_drew1) | exact HB.out))) : w.heap.size ≤ gb155)); clear HB; have HB := n0_; have BK155 := n1_; have GW155 := n2_; have GE155 := n3_; clear n0_ n1_ n2_ n3_; clear hb hbox hg; have hcz23_0 : w22.cell? ⟨gb155, 0, none⟩ = some (.int .i64 a0_0) := (blk_cell BK155.out 0).trans rfl; have hcz23_1 : w22.cell? ⟨gb155, 1, none⟩ = some (.int .i64 a0_1) := (blk_cell BK155.out 1).trans rfl; have hcz23_2 : w22.cell? ⟨gb155, 2, none⟩ = some (.slice A0_2 l0_2.length c0_2) := (blk_cell BK155.out 2).trans rfl; have hcz23_3 : w22.cell? ⟨gb155, 3, none⟩ = some (.int .i64 a0_3) := (blk_cell BK155.out 3).trans rfl; have hfz23_0 := blk_frozen BK155.out 0; have hfz23_1 := blk_frozen BK155.out 1; have hfz23_2 := blk_frozen BK155.out 2; have hfz23_3 := blk_frozen BK155.out 3) | (go_at_call 39; (with_reducible refine (vivariumref11_Check.calls k a0_0 a0_1 _ _ l0_2 a0_3 t156 _ ?side1 ?side2 A3.out).mono ?_); (case side1 => repeat (first | exact (Kd.C_below HR0_2.out HB.out) | (with_reducible refine Kd.C_alloc ?_ _) | (with_reducible refine Kd.C_drewN ?_ _) | (with_reducible refine Kd.C_drew ?_))); (case side2 => exact HC0_2.out); rintro e w24 ⟨rfl, hb⟩; have n0_ := Aside0.mk (blk_below (g := gb155) (o := .cells #[.int .i64 a0_0, .int .i64 a0_1, .slice A0_2 l0_2.length c0_2, .int .i64 a0_3] 24 (0, 0)) (by (with_reducible repeat (first | refine blk_drewN ?_ _ | refine blk_drew ?_ | refine blk_alloc ?_ _)); exact BK155.out) hb); have n1_ := Aside0.mk (below_step (by repeat (first | (with_reducible first | exact HB.out | apply below_alloc | apply pw_below_drewN | apply below_drew1 | refine below_set ?_ GE155.out) | exact HB.out)) hb); clear BK155; clear HB; have BK155 := n0_; have HB := n1_; clear n0_ n1_; (try clear hb); (try clear hb2); (try clear hk); (try clear hi)))
    repeat (go_quiet (first | ((with_reducible refine gate_dst (N := 2) rfl ?_); refine box_event ?hg (N := 2) ?hd (cs := #[.int .i64 a0_0, .int .i64 a0_1, .slice A0_2 l0_2.length c0_2, .int .i64 a0_3]) (t := 24) ?hr ?_; (case hd => rfl); (case hg => rfl); (case hr => first | (go_simp; done) | (go_simp; rfl)); intro gb155 hg w22 hbox hb; have n0_ := Aside0.mk (below_step (by repeat (first | (with_reducible first | exact HB.out | apply below_alloc | apply pw_below_drewN | apply below_drew1) | exact HB.out)) hb); have n1_ := Aside0.mk (hbox); have n2_ := Aside0.mk ((by rw [hg]; exact (below_size (by repeat (first | (with_reducible first | exact HB.out | apply below_alloc | apply pw_below_drewN | apply below_drew1) | exact HB.out))) : w.heap.size ≤ gb155)); have n3_ := Aside0.mk ((by rw [hg]; exact (below_size (by repeat (first | (with_reducible first | exact HB.out | apply below_alloc | apply pw_below_drewN | apply below_drew1) | exact HB.out))) : w.heap.size ≤ gb155)); clear HB; have HB := n0_; have BK155 := n1_; have GW155 := n2_; have GE155 := n3_; clear n0_ n1_ n2_ n3_; clear hb hbox hg; have hcz23_0 : w22.cell? ⟨gb155, 0, none⟩ = some (.int .i64 a0_0) := (blk_cell BK155.out 0).trans rfl; have hcz23_1 : w22.cell? ⟨gb155, 1, none⟩ = some (.int .i64 a0_1) := (blk_cell BK155.out 1).trans rfl; have hcz23_2 : w22.cell? ⟨gb155, 2, none⟩ = some (.slice A0_2 l0_2.length c0_2) := (blk_cell BK155.out 2).trans rfl; have hcz23_3 : w22.cell? ⟨gb155, 3, none⟩ = some (.int .i64 a0_3) := (blk_cell BK155.out 3).trans rfl; have hfz23_0 := blk_frozen BK155.out 0; have hfz23_1 := blk_frozen BK155.out 1; have hfz23_2 := blk_frozen BK155.out 2; have hfz23_3 := blk_frozen BK155.out 3) | (go_at_call 39; (with_reducible refine (vivariumref11_Check.calls k a0_0 a0_1 _ _ l0_2 a0_3 t156 _ ?side1 ?side2 A3.out).mono ?_); (case side1 => repeat (first | exact (Kd.C_below HR0_2.out HB.out) | (with_reducible refine Kd.C_alloc ?_ _) | (with_reducible refine Kd.C_drewN ?_ _) | (with_reducible refine Kd.C_drew ?_))); (case side2 => exact HC0_2.out); rintro e w24 ⟨rfl, hb⟩; have n0_ := Aside0.mk (blk_below (g := gb155) (o := .cells #[.int .i64 a0_0, .int .i64 a0_1, .slice A0_2 l0_2.length c0_2, .int .i64 a0_3] 24 (0, 0)) (by (with_reducible repeat (first | refine blk_drewN ?_ _ | refine blk_drew ?_ | refine blk_alloc ?_ _)); exact BK155.out) hb); have n1_ := Aside0.mk (below_step (by repeat (first | (with_reducible first | exact HB.out | apply below_alloc | apply pw_below_drewN | apply below_drew1 | refine below_set ?_ GE155.out) | exact HB.out)) hb); clear BK155; clear HB; have BK155 := n0_; have HB := n1_; clear n0_ n1_; (try clear hb); (try clear hb2); (try clear hk); (try clear hi))); try go_wp2_with (first | ((with_reducible refine gate_dst (N := 2) rfl ?_); refine box_event ?hg (N := 2) ?hd (cs := #[.int .i64 a0_0, .int .i64 a0_1, .slice A0_2 l0_2.length c0_2, .int .i64 a0_3]) (t := 24) ?hr ?_; (case hd => rfl); (case hg => rfl); (case hr => first | (go_simp; done) | (go_simp; rfl)); intro gb155 hg w22 hbox hb; have n0_ := Aside0.mk (below_step (by repeat (first | (with_reducible first | exact HB.out | apply below_alloc | apply pw_below_drewN | apply below_drew1) | exact HB.out)) hb); have n1_ := Aside0.mk (hbox); have n2_ := Aside0.mk ((by rw [hg]; exact (below_size (by repeat (first | (with_reducible first | exact HB.out | apply below_alloc | apply pw_below_drewN | apply below_drew1) | exact HB.out))) : w.heap.size ≤ gb155)); have n3_ := Aside0.mk ((by rw [hg]; exact (below_size (by repeat (first | (with_reducible first | exact HB.out | apply below_alloc | apply pw_below_drewN | apply below_drew1) | exact HB.out))) : w.heap.size ≤ gb155)); clear HB; have HB := n0_; have BK155 := n1_; have GW155 := n2_; have GE155 := n3_; clear n0_ n1_ n2_ n3_; clear hb hbox hg; have hcz23_0 : w22.cell? ⟨gb155, 0, none⟩ = some (.int .i64 a0_0) := (blk_cell BK155.out 0).trans rfl; have hcz23_1 : w22.cell? ⟨gb155, 1, none⟩ = some (.int .i64 a0_1) := (blk_cell BK155.out 1).trans rfl; have hcz23_2 : w22.cell? ⟨gb155, 2, none⟩ = some (.slice A0_2 l0_2.length c0_2) := (blk_cell BK155.out 2).trans rfl; have hcz23_3 : w22.cell? ⟨gb155, 3, none⟩ = some (.int .i64 a0_3) := (blk_cell BK155.out 3).trans rfl; have hfz23_0 := blk_frozen BK155.out 0; have hfz23_1 := blk_frozen BK155.out 1; have hfz23_2 := blk_frozen BK155.out 2; have hfz23_3 := blk_frozen BK155.out 3) | (go_at_call 39; (with_reducible refine (vivariumref11_Check.calls k a0_0 a0_1 _ _ l0_2 a0_3 t156 _ ?side1 ?side2 A3.out).mono ?_); (case side1 => repeat (first | exact (Kd.C_below HR0_2.out HB.out) | (with_reducible refine Kd.C_alloc ?_ _) | (with_reducible refine Kd.C_drewN ?_ _) | (with_reducible refine Kd.C_drew ?_))); (case side2 => exact HC0_2.out); rintro e w24 ⟨rfl, hb⟩; have n0_ := Aside0.mk (blk_below (g := gb155) (o := .cells #[.int .i64 a0_0, .int .i64 a0_1, .slice A0_2 l0_2.length c0_2, .int .i64 a0_3] 24 (0, 0)) (by (with_reducible repeat (first | refine blk_drewN ?_ _ | refine blk_drew ?_ | refine blk_alloc ?_ _)); exact BK155.out) hb); have n1_ := Aside0.mk (below_step (by repeat (first | (with_reducible first | exact HB.out | apply below_alloc | apply pw_below_drewN | apply below_drew1 | refine below_set ?_ GE155.out) | exact HB.out)) hb); clear BK155; clear HB; have BK155 := n0_; have HB := n1_; clear n0_ n1_; (try clear hb); (try clear hb2); (try clear hk); (try clear hi))))
    go_ret2
    exact ⟨by first | rfl | (simp [errW_none, errW_some] <;> rfl) | (simp [*, errW_none, errW_some] <;> rfl), by repeat (first | (with_reducible first | exact HB.out | apply below_alloc | apply pw_below_drewN | apply below_drew1 | refine below_set ?_ GE155.out) | exact HB.out)⟩
end Go.Proofs.YtbnonnogkgbpiaaDoor.PT
end
section
namespace Go.Proofs.YtbnonnogkgbpiaaDoor.TreePlain
open Go Go.RowKit Go.Proofs.YtbnonnogkgbpiaaDoorW.PrintWords Go.Proofs.YtbnonnogkgbpiaaDoorW.PrintLast Go.Proofs.YtbnonnogkgbpiaaDoorW.PrintMore Go.Proofs.YtbnonnogkgbpiaaDoor.PT Go.Proofs.YtbnonnogkgbpiaaDoor.TreeText
set_option linter.unusedVariables false
set_option linter.unusedSimpArgs false
theorem rd_set (lv : List Int) (i : Nat) (v : Int) (hi : i < lv.length) (q : Int) (h0 : 0 ≤ q) : rd (lv.set i v) q = if q = i then v else rd lv q := by
  unfold rd
  rw [List.getD_eq_getElem?_getD, List.getElem?_set]
  by_cases e : q = i
  · rw [if_pos e, if_pos (by omega), if_pos hi]
    rfl
  · rw [if_neg e, if_neg (by omega), ← List.getD_eq_getElem?_getD]
def Levels (st : Int) (l : List S49) (i : Nat) (lv : List Int) : Prop :=
  (∀ j, j < i → ((nd l j).f1.length = 0 ∧ (nd l j).f0 < st ∧ rd lv j = 0) ∨ ((nd l j).f0 = 0 ∧ ((nd l j).f1.length : Int) = st ∧ ∀ q, q < (nd l j).f1.length → 0 ≤ rd (nd l j).f1 q ∧ rd (nd l j).f1 q < j ∧ rd lv j = rd lv (rd (nd l j).f1 q) + 1)) ∧ ∀ j : Nat, i ≤ j → rd lv j = 0
theorem chkTo_levels (st : Int) (l : List S49) : ∀ i lv, i ≤ l.length → chkTo st l i = some lv → Levels st l i lv
  | 0, lv, _, h => by
    cases h
    refine ⟨fun j hj => by omega, fun j _ => ?_⟩
    unfold rd
    rw [Int.toNat_natCast, List.getD_eq_getElem?_getD, List.getElem?_replicate]
    split <;> rfl
  | i + 1, lv, hi, h => by
    unfold chkTo at h
    rcases hc : chkTo st l i with _ | lv0
    · rw [hc] at h
      cases h
    · rw [hc] at h
      obtain ⟨h1, h2⟩ := chkTo_levels st l i lv0 (by omega) hc
      have hlen := chkTo_len st l i lv0 hc
      simp only [Option.bind_some] at h
      split at h
      · rename_i c
        split at h
        · cases h
        · rename_i c2
          cases h
          refine ⟨fun j hj => ?_, fun j hj => h2 j (by omega)⟩
          by_cases e : j < i
          · exact h1 j e
          · have : j = i := by omega
            subst this
            exact .inl ⟨c, by omega, h2 j (Nat.le_refl _)⟩
      · rename_i c
        split at h
        · rename_i c2
          cases h
          obtain ⟨c3, c4, c5⟩ := c2
          have hil : i < lv0.length := by omega
          refine ⟨fun j hj => ?_, fun j hj => by rw [rd_set _ _ _ hil _ (by omega), if_neg (by omega)]; exact h2 j (by omega)⟩
          by_cases e : j < i
          · rcases h1 j e with ⟨a, b, c'⟩ | ⟨a, b, c'⟩
            · exact .inl ⟨a, b, by rw [rd_set _ _ _ hil _ (by omega), if_neg (by omega)]; exact c'⟩
            · refine .inr ⟨a, b, fun q hq => ?_⟩
              obtain ⟨d1, d2, d3⟩ := c' q hq
              refine ⟨d1, d2, ?_⟩
              rw [rd_set _ _ _ hil _ (by omega), if_neg (by omega), rd_set _ _ _ hil _ d1, if_neg (by omega)]
              exact d3
          · have : j = i := by omega
            subst this
            refine .inr ⟨c3, c4, fun q hq => ?_⟩
            obtain ⟨d1, d2, d3⟩ := c5 q (Nat.zero_le _) hq
            refine ⟨d1, d2, ?_⟩
            rw [rd_set _ _ _ hil _ (by omega), if_pos rfl, rd_set _ _ _ hil _ d1, if_neg (by omega), d3]
        · cases h
def downP (l : List S49) : List Int → Int → Int
  | [], a => (rd_T49 l a).f0
  | x :: xs, a => downP l xs (rd (rd_T49 l a).f1 x)
theorem drop_cons {l : List Int} {i : Nat} (h : i < l.length) : l.drop i = l[i] :: l.drop (i + 1) := List.drop_eq_getElem_cons h
theorem l0_at (st n rt : Int) (l : List S49) (lv : List Int) (hL : Levels st l l.length lv) (hst : 1 ≤ st ∧ st ≤ 256) (xs : List Int) (hx : ∀ v ∈ xs, 0 ≤ v ∧ v < st) (hxl : xs.length ≤ 65536) :
    ∀ (d i : Nat) (a : Int), i + d = xs.length → 0 ≤ a → a < l.length → rd lv a = d → (∃ k, tree_at.l0 k a xs xs.length i st n l rt = some (downP l (xs.drop i) a)) ∧ (∃ k, vivariumref11_answer.l0 k xs a i st n l rt = some (downP l (xs.drop i) a)) := by
  intro d
  induction d with
  | zero =>
    intro i a hi h0 h1 hlv
    rw [List.drop_of_length_le (by omega)]
    refine ⟨⟨0 + 1, ?_⟩, ⟨0 + 1, ?_⟩⟩
    · rw [tree_at.l0, if_neg (by omega), if_pos h0, if_pos h1]
      rfl
    · rw [vivariumref11_answer.l0, if_neg (by omega), if_pos h0, if_pos h1]
      rfl
  | succ d ih =>
    intro i a hi h0 h1 hlv
    have hlt : i < xs.length := by omega
    have q1 : (i : Int) < xs.length := by omega
    have q3 : (0 : Int) ≤ i := by omega
    have hr := rd_nat hlt
    have hxv := hx _ (List.getElem_mem hlt)
    have hw : wrap64 ((i : Int) + 1) = ((i + 1 : Nat) : Int) := by unfold wrap64; omega
    have hnd : rd_T49 l a = nd l a.toNat := rfl
    have hb := hL.1 a.toNat (by omega)
    rw [show ((a.toNat : Nat) : Int) = a by omega] at hb
    rcases hb with ⟨_, _, e⟩ | ⟨e1, e2, e3⟩
    · omega
    · rw [drop_cons hlt]
      generalize xs[i] = x at *
      obtain ⟨d1, d2, d3⟩ := e3 x.toNat (by omega)
      rw [show ((x.toNat : Nat) : Int) = x by omega] at d1 d2 d3
      have q4 : x < ((nd l a.toNat).f1.length : Int) := by omega
      obtain ⟨⟨k1, hk1⟩, ⟨k2, hk2⟩⟩ := ih (i + 1) (rd (nd l a.toNat).f1 x) (by omega) d1 (by omega) (by omega)
      refine ⟨⟨k1 + 1, ?_⟩, ⟨k2 + 1, ?_⟩⟩
      · rw [tree_at.l0, if_pos q1, if_pos q3, if_pos q1, if_pos h0, if_pos h1, hr, hnd, if_pos hxv.1, if_pos q4, hw]
        show _ = some (downP l (xs.drop (i + 1)) (rd (rd_T49 l a).f1 x))
        rw [hnd]
        exact hk1
      · rw [vivariumref11_answer.l0, if_pos q1, if_pos h0, if_pos h1, if_pos q3, hr, hnd, if_pos hxv.1, if_pos q4, hw]
        show _ = some (downP l (xs.drop (i + 1)) (rd (rd_T49 l a).f1 x))
        rw [hnd]
        exact hk2
def atP (st n : Int) (l : List S49) (rt : Int) (xs : List Int) : Int × Int :=
  if chk st n l rt ≠ 0 then (0, chk st n l rt) else if (xs.length : Int) ≠ n then (0, 2) else if ∃ x ∈ xs, x ≥ st then (0, 7) else (downP l xs rt, 0)
theorem chk_levels {st n rt : Int} {l : List S49} (h : chk st n l rt = 0) : ∃ lv, Levels st l l.length lv ∧ rd lv rt = n := by
  unfold chk at h
  split at h
  · cases h
  · unfold chkEnd at h
    rcases hc : chkTo st l l.length with _ | lv
    · rw [hc] at h
      cases h
    · rw [hc] at h
      dsimp only at h
      split at h
      · rename_i e
        exact ⟨lv, chkTo_levels st l _ lv (Nat.le_refl _) hc, e⟩
      · cases h
section
variable {st n rt : Int} {l : List S49}
theorem l0_At (hc : chk st n l rt = 0) (xs : List Int) (hx : ∀ v ∈ xs, 0 ≤ v ∧ v ≤ 255) (hn : (xs.length : Int) = n) : ∀ (d i : Nat), i + d = xs.length → (∀ j (h : j < xs.length), j < i → xs[j] < st) →
    (∃ k, tree_At.l0 k xs xs xs.length i st n l rt = some (if ∃ x ∈ xs, x ≥ st then (0, 7) else (downP l xs rt, 0))) ∧ (∃ k, vivariumref11_At.l0 k xs i st n l rt = some (if ∃ x ∈ xs, x ≥ st then (0, 7) else (downP l xs rt, 0))) := by
  have hF := chk_zero hc
  intro d
  induction d with
  | zero =>
    intro i hi hall
    have hno : ¬ ∃ x ∈ xs, x ≥ st := by
      rintro ⟨x, hx1, hx2⟩
      obtain ⟨j, hj, rfl⟩ := List.mem_iff_getElem.1 hx1
      have := hall j hj (by omega)
      omega
    rw [if_neg hno]
    obtain ⟨lv, hL, hrt⟩ := chk_levels hc
    have hxl : xs.length ≤ 65536 := by have := hF.hn; omega
    obtain ⟨⟨k1, hk1⟩, ⟨k2, hk2⟩⟩ := l0_at st n rt l lv hL hF.hst xs (fun v hv => ⟨(hx v hv).1, by
      obtain ⟨j, hj, rfl⟩ := List.mem_iff_getElem.1 hv
      exact hall j hj (by omega)⟩) hxl xs.length 0 rt (by omega) hF.hrt.1 hF.hrt.2 (by omega)
    refine ⟨⟨k1 + 1, ?_⟩, ⟨k2 + 1, ?_⟩⟩
    · rw [tree_At.l0, if_neg (by omega)]
      unfold tree_at.f
      rw [show ((0 : Nat) : Int) = 0 from rfl] at hk1
      rw [hk1]
      rfl
    · rw [vivariumref11_At.l0, if_neg (by omega)]
      unfold vivariumref11_answer.f
      rw [show ((0 : Nat) : Int) = 0 from rfl] at hk2
      rw [hk2]
      rfl
  | succ d ih =>
    intro i hi hall
    have hlt : i < xs.length := by omega
    have q1 : (i : Int) < xs.length := by omega
    have q3 : (0 : Int) ≤ i := by omega
    have hr := rd_nat hlt
    have hxv := hx _ (List.getElem_mem hlt)
    have hxl : xs.length ≤ 65536 := by have := hF.hn; omega
    have hw : wrap64 ((i : Int) + 1) = ((i + 1 : Nat) : Int) := by unfold wrap64; omega
    have hw2 : wrap64 xs[i] = xs[i] := by unfold wrap64; omega
    by_cases c : xs[i] ≥ st
    · rw [if_pos ⟨xs[i], List.getElem_mem hlt, c⟩]
      refine ⟨⟨0 + 1, ?_⟩, ⟨0 + 1, ?_⟩⟩
      · rw [tree_At.l0, if_pos q1, if_pos q3, if_pos q1, hr, hw2, if_pos c]
      · rw [vivariumref11_At.l0, if_pos q1, if_pos q3, hr, hw2, if_pos c]
    · obtain ⟨⟨k1, hk1⟩, ⟨k2, hk2⟩⟩ := ih (i + 1) (by omega) (fun j h hj => by
        rcases Nat.lt_or_ge j i with h' | h'
        · exact hall j h h'
        · have : j = i := by omega
          subst this
          omega)
      refine ⟨⟨k1 + 1, ?_⟩, ⟨k2 + 1, ?_⟩⟩
      · rw [tree_At.l0, if_pos q1, if_pos q3, if_pos q1, hr, hw2, if_neg c, hw]
        exact hk1
      · rw [vivariumref11_At.l0, if_pos q1, if_pos q3, hr, hw2, if_neg c, hw]
        exact hk2
end
theorem at_is (st n rt : Int) (l : List S49) (hB : Bytes l) (xs : List Int) (hx : ∀ v ∈ xs, 0 ≤ v ∧ v ≤ 255) : (∃ k, tree_At.f k st n l rt xs = some (atP st n l rt xs)) ∧ (∃ k, vivariumref11_At.f k st n l rt xs = some (atP st n l rt xs)) := by
  obtain ⟨k1, hk1⟩ := chk_tree st n rt l hB
  obtain ⟨k2, hk2⟩ := chk_ref st n rt l hB
  unfold atP
  by_cases c : chk st n l rt = 0
  · rw [if_neg (by simpa using c)]
    by_cases c2 : (xs.length : Int) = n
    · rw [if_neg (by simpa using c2)]
      obtain ⟨⟨k3, hk3⟩, ⟨k4, hk4⟩⟩ := l0_At c xs hx c2 xs.length 0 (by omega) (fun j h hj => by omega)
      rw [show ((0 : Nat) : Int) = 0 from rfl] at hk3 hk4
      refine ⟨⟨k1 + k3, ?_⟩, ⟨k2 + k4, ?_⟩⟩
      · have e1 := leo_add (fun m => tree_Check.f m st n l rt) (fun m => tree_Check.mono _ _ _ _ m) k1 _ hk1 k3
        have e2 := leo_add (fun m => tree_At.l0 m xs xs xs.length 0 st n l rt) (fun m => tree_At.mono_l m _ _ _ _ _ _ _ _) k3 _ hk3 k1
        unfold tree_At.f
        rw [e1, Option.bind_some, if_pos c, if_pos c2, Nat.add_comm k1 k3]
        exact e2
      · have e1 := leo_add (fun m => vivariumref11_Check.f m st n l rt) (fun m => vivariumref11_Check.mono _ _ _ _ m) k2 _ hk2 k4
        have e2 := leo_add (fun m => vivariumref11_At.l0 m xs 0 st n l rt) (fun m => vivariumref11_At.mono_l m _ _ _ _ _ _) k4 _ hk4 k2
        unfold vivariumref11_At.f
        rw [e1, Option.bind_some, if_pos c, if_pos c2, Nat.add_comm k2 k4]
        exact e2
    · rw [if_pos (by simpa using c2)]
      refine ⟨⟨k1, ?_⟩, ⟨k2, ?_⟩⟩
      · unfold tree_At.f
        rw [hk1, Option.bind_some, if_pos c, if_neg c2]
      · unfold vivariumref11_At.f
        rw [hk2, Option.bind_some, if_pos c, if_neg c2]
  · rw [if_pos (by simpa using c)]
    refine ⟨⟨k1, ?_⟩, ⟨k2, ?_⟩⟩
    · unfold tree_At.f
      rw [hk1, Option.bind_some, if_neg c]
    · unfold vivariumref11_At.f
      rw [hk2, Option.bind_some, if_neg c]
end Go.Proofs.YtbnonnogkgbpiaaDoor.TreePlain
end
section
namespace Go.Proofs.YtbnonnogkgbpiaaDoor.LentT
open Go Go.RowKit Go.Proofs.YtbnonnogkgbpiaaDoorW.PrintWords Go.Proofs.YtbnonnogkgbpiaaDoorW.PrintLast Go.Proofs.YtbnonnogkgbpiaaDoorW.PrintMore Go.Proofs.YtbnonnogkgbpiaaDoor.PT Go.Proofs.YtbnonnogkgbpiaaDoor.TreePlain Go.Proofs.YtbnonnogkgbpiaaDoor.TreeText
set_option linter.unusedVariables false
set_option linter.unusedSimpArgs false
structure TA (w W : World) (st n rt : Int) (A : Option Addr) (c : Nat) (l : List S49) (t2 t6 gn cn : Nat) (K : List (Nat × Nat)) (L : List S49) (k : IntKind) (ty : TypeId) (vf : Value) (ys : List Int) : Prop where
  b2 : W.heap[t2]? = some (.cells #[.int .i64 st, .int .i64 n, .slice A l.length c, .int .i64 rt] 24 (0, 0))
  b6 : W.heap[t6]? = some (.cells #[.int .i64 st, .int .i64 n, .slice (some ⟨gn, 0, none⟩) l.length cn, .int .i64 rt] 24 (0, 0))
  la : LentAt w.heap.size W (.slice (some ⟨gn, 0, none⟩) (l.length + 2) cn) L l.length 2 K
  fu : Kd.R (Kd.int k) ty W w.heap.size (fun q => w.heap.size ≤ q ∧ (∀ p ∈ K, p.1 ≠ q) ∧ q ≠ gn) vf ys
  be : Below w.heap.size w W
section
variable {w W W' : World} {st n rt : Int} {A : Option Addr} {c : Nat} {l : List S49} {t2 t6 gn cn : Nat} {K : List (Nat × Nat)} {L : List S49} {k : IntKind} {ty : TypeId} {vf : Value} {ys : List Int}
theorem TA.on (h : TA w W st n rt A c l t2 t6 gn cn K L k ty vf ys) (hb : Below W.heap.size W W') : TA w W' st n rt A c l t2 t6 gn cn K L k ty vf ys :=
  ⟨blk_below h.b2 hb, blk_below h.b6 hb, h.la.on hb, Kd.R_below h.fu hb, h.be.trans (hb.mono h.be.size)⟩
theorem TA.new (h : TA w W st n rt A c l t2 t6 gn cn K L k ty vf ys) : ∀ q, W.heap.size ≤ q → w.heap.size ≤ q ∧ (∀ p ∈ K, p.1 ≠ q) ∧ q ≠ gn := by
  intro q hq
  refine ⟨Nat.le_trans h.be.size hq, fun p hp e => ?_, fun e => ?_⟩
  · obtain ⟨j, hj, e2⟩ := List.mem_iff_getElem.1 hp
    have := own_lt (h.la.kid j p.1 p.2 (by rw [List.getElem?_eq_getElem hj, e2])) p.1 rfl
    omega
  · have := own_lt h.la.row gn rfl
    omega
theorem TA.grow {v1 : Value} {zs : List Int} (h : TA w W st n rt A c l t2 t6 gn cn K L k ty vf ys) (ht : ty ≠ 24) (ho : Kd.R (Kd.int k) ty W' w.heap.size (fun q => w.heap.size ≤ q ∧ (∀ p ∈ K, p.1 ≠ q) ∧ q ≠ gn) v1 zs) (hb : Below w.heap.size w W') (hg : W.grownBy W' vf.ownBlock) : TA w W' st n rt A c l t2 t6 gn cn K L k ty v1 zs := by
  have hok := h.fu.1
  refine ⟨blk_grown h.b2 hg (fun e => ?_), blk_grown h.b6 hg (fun e => ?_), h.la.move (fun q hq => ?_) (fun p hp => ?_), ho, hb⟩
  · obtain ⟨cs, hc⟩ := Kd.R_typed h.fu t2 e.symm
    rw [h.b2] at hc
    injection hc with hc
    injection hc with _ hc
    exact ht hc.symm
  · obtain ⟨cs, hc⟩ := Kd.R_typed h.fu t6 e.symm
    rw [h.b6] at hc
    injection hc with hc
    injection hc with _ hc
    exact ht hc.symm
  · obtain rfl : gn = q := by simpa [Value.ownBlock] using hq
    exact hg.block gn (own_lt h.la.row gn rfl) (fun e => (hok gn e.symm).2.2 rfl)
  · obtain ⟨j, hj, e2⟩ := List.mem_iff_getElem.1 hp
    exact hg.block p.1 (own_lt (h.la.kid j p.1 p.2 (by rw [List.getElem?_eq_getElem hj, e2])) p.1 rfl) (fun e => (hok p.1 e.symm).2.1 p hp rfl)
theorem TA.wiped {L' : List S49} (h : TA w W st n rt A c l t2 t6 gn cn K L .u8 5 vf ys) (hl : LentAt w.heap.size W' (.slice (some ⟨gn, 0, none⟩) (l.length + 2) cn) L' l.length 2 K) (hb : Below w.heap.size W W') (hq : Kq W W') : TA w W' st n rt A c l t2 t6 gn cn K L' .u8 5 vf ys :=
  ⟨hq.box h.b2 (by decide) (by decide), hq.box h.b6 (by decide) (by decide), hl, by
    have e : Kd.R (Kd.int .u8) 5 W' w.heap.size (fun q => (w.heap.size ≤ q ∧ (∀ p ∈ K, p.1 ≠ q) ∧ q ≠ gn) ∧ ∃ cells, W.heap[q]? = some (.cells cells 5 (0, 0))) vf ys := by
      refine Kd.R_move (Kd.R_mono (Kd.R_bound h.fu) (fun q hq => ?_)) (fun q hq' => ?_)
      · obtain ⟨h1, _, _, y, hy, cells, hc⟩ := hq
        obtain rfl : y = 5 := by simpa [Kd.int, Kd.scalar] using hy
        exact ⟨h1, cells, hc⟩
      · obtain ⟨_, cells, hc⟩ := hq'
        exact (hq.box hc (by decide) (by decide)).trans hc.symm
    exact Kd.R_mono e (fun q hq => hq.1), h.be.trans hb⟩
end
theorem readsL {B : Nat} {W : World} {gn cn : Nat} {l L : List S49} {K : List (Nat × Nat)} (h : LentAt B W (.slice (some ⟨gn, 0, none⟩) (l.length + 2) cn) L l.length 2 K) (e : L.length = l.length) (hm : l.length ≤ 9223372036854775807) : Kd.C k49 W (some ⟨gn, 0, none⟩) l.length L := by
  have h2 : LentAt B W (.slice (some ⟨gn, 0, none⟩) (L.length + 2) cn) L L.length 2 K := by
    rw [e]
    exact h
  have h3 := h2.reads (by omega)
  rw [e] at h3
  exact h3
theorem len2 (xs : List Int) (a b : Int) : (xs ++ [a, b]).length = xs.length + 2 := by simp
theorem take_app (xs ys : List Int) : (xs ++ ys).take xs.length = xs := List.take_left' rfl
theorem TA.front {w W : World} {st n rt : Int} {A : Option Addr} {c : Nat} {l : List S49} {t2 t6 gn cn : Nat} {K : List (Nat × Nat)} {L : List S49} {k : IntKind} {ty : TypeId} {gf cf m : Nat} {xs ys : List Int} (h : TA w W st n rt A c l t2 t6 gn cn K L k ty (.slice (some ⟨gf, 0, none⟩) m cf) (xs ++ ys)) : Kd.C (Kd.int k) W (some ⟨gf, 0, none⟩) xs.length xs ∧ xs.length ≤ cf := by
  have h1 := Kd.R_take h.fu (m := xs.length) (by simp)
  rw [take_app] at h1
  have h2 := Kd.R_reads' h1
  exact ⟨h2.2.2, h2.2.1⟩
theorem TA.cells {w W : World} {st n rt : Int} {A : Option Addr} {c : Nat} {l : List S49} {t2 t6 gn cn : Nat} {K : List (Nat × Nat)} {L : List S49} {k : IntKind} {ty : TypeId} {vf : Value} {ys : List Int} (h : TA w W st n rt A c l t2 t6 gn cn K L k ty vf ys) : (W.cell? ⟨t2, 0, none⟩ = some (.int .i64 st) ∧ W.cell? ⟨t2, 1, none⟩ = some (.int .i64 n) ∧ W.cell? ⟨t2, 2, none⟩ = some (.slice A l.length c) ∧ W.cell? ⟨t2, 3, none⟩ = some (.int .i64 rt)) ∧ (W.cell? ⟨t6, 0, none⟩ = some (.int .i64 st) ∧ W.cell? ⟨t6, 1, none⟩ = some (.int .i64 n) ∧ W.cell? ⟨t6, 2, none⟩ = some (.slice (some ⟨gn, 0, none⟩) l.length cn) ∧ W.cell? ⟨t6, 3, none⟩ = some (.int .i64 rt)) := ⟨four h.b2, four h.b6⟩
theorem rd_app (xs : List Int) (a b : Int) : rd (xs ++ [a, b]) xs.length = a ∧ rd (xs ++ [a, b]) ((xs.length : Int) + 1) = b := by
  constructor
  · unfold rd
    rw [Int.toNat_natCast, List.getD_eq_getElem?_getD, List.getElem?_append_right (Nat.le_refl _), Nat.sub_self]
    rfl
  · unfold rd
    rw [show ((xs.length : Int) + 1).toNat = xs.length + 1 by omega, List.getD_eq_getElem?_getD, List.getElem?_append_right (by omega), show xs.length + 1 - xs.length = 1 by omega]
    rfl
theorem TA.marks {w W : World} {st n rt : Int} {A : Option Addr} {c : Nat} {l : List S49} {t2 t6 gn cn : Nat} {K : List (Nat × Nat)} {L : List S49} {k : IntKind} {ty : TypeId} {gf cf m : Nat} {xs : List Int} {a b : Int} (h : TA w W st n rt A c l t2 t6 gn cn K L k ty (.slice (some ⟨gf, 0, none⟩) m cf) (xs ++ [a, b])) : W.cell? ⟨gf, xs.length, none⟩ = some (.int k a) ∧ W.cell? ⟨gf, xs.length + 1, none⟩ = some (.int k b) := by
  have h2 := (Kd.R_reads' h.fu).2.2
  obtain ⟨e1, e2⟩ := rd_app xs a b
  obtain ⟨ad, ef, u0⟩ := Kd.at_int h2 (xs.length : Int) (by omega) (by simp; omega)
  obtain ⟨ad', ef', u1⟩ := Kd.at_int h2 ((xs.length : Int) + 1) (by omega) (by simp)
  obtain rfl : (⟨gf, 0, none⟩ : Addr) = ad := Option.some.inj ef
  obtain rfl : (⟨gf, 0, none⟩ : Addr) = ad' := Option.some.inj ef'
  rw [addr_add, e1, Int.toNat_natCast] at u0
  rw [addr_add, e2, show ((xs.length : Int) + 1).toNat = xs.length + 1 by omega] at u1
  exact ⟨u0, u1⟩
set_option maxHeartbeats 32000000 in
set_option maxRecDepth 100000 in
theorem ats_walk (st n rt : Int) (A : Option Addr) (c : Nat) (l : List S49) (A1 : Option Addr) (c1 : Nat) (xs : List Int) (w : World) (hp : Pow w) (hr : Kd.C k49 w A l.length l) (hc : l.length ≤ c) (hl : l.length ≤ 2000000) (hk : ∀ j, (nd l j).f1.length ≤ 2000000) (hy : Bytes l)
    (hx : Kd.C (Kd.int .u8) w A1 xs.length xs) (hxc : xs.length ≤ c1) (hxl : xs.length ≤ 2000000) (hxy : ∀ v ∈ xs, 0 ≤ v ∧ v ≤ 255) :
    Calls Tryd.prog 8 #[.agg #[.int .i64 st, .int .i64 n, .slice A l.length c, .int .i64 rt], .slice A1 xs.length c1] w fun e w' => e = .returned (.bool true) ∧ Below w.heap.size w w' := by
  have hu := Tryd.underlying24
  obtain ⟨k1, hk1⟩ := chk_tree st n rt l hy
  obtain ⟨k2, hk2⟩ := chk_ref st n rt l hy
  obtain ⟨⟨k3, hk3⟩, ⟨k4, hk4⟩⟩ := at_is st n rt l hy xs hxy
  have hLl := wl_len st l l.length
  have hLk := fun j => wl_kids st l l.length (Nat.le_refl _) j
  have hLy := wl_bytes st l hy l.length (Nat.le_refl _)
  obtain ⟨⟨k5, hk5⟩, ⟨k6, hk6⟩⟩ := at_is st n rt (wl st l l.length) hLy xs hxy
  have hWP := fun B gn cn K (W : World) (hL : LentAt B W (.slice (some ⟨gn, 0, none⟩) (l.length + 2) cn) l l.length 2 K) (hB : B ≤ W.heap.size) => wipe_calls B st n l rt gn cn K W hL hB hl hk hy
  generalize wl st l l.length = L at hLl hLk hLy hk5 hk6 hWP
  generalize chk st n l rt = code at hk1 hk2
  generalize atP st n l rt xs = P1 at hk3 hk4
  generalize atP st n L rt xs = P2 at hk5 hk6
  obtain ⟨r1, r2⟩ := P1
  obtain ⟨q1, q2⟩ := P2
  have cC := Aside0.mk (fun (W : World) (A : Option Addr) (c : Nat) (h : Kd.C k49 W A l.length l) (hc : l.length ≤ c) => tree_Check.calls k1 st n A c l rt code W h hc hk1)
  have cR := Aside0.mk (fun (W : World) (A : Option Addr) (c : Nat) (h : Kd.C k49 W A l.length l) (hc : l.length ≤ c) => vivariumref11_Check.calls k2 st n A c l rt code W h hc hk2)
  have cA := Aside0.mk (fun (W : World) (A : Option Addr) (c : Nat) (A1 : Option Addr) (c1 : Nat) (h : Kd.C k49 W A l.length l) (hc : l.length ≤ c) (h1 : Kd.C (Kd.int .u8) W A1 xs.length xs) (hc1 : xs.length ≤ c1) => tree_At.calls k3 st n A c l rt A1 c1 xs r1 r2 W h hc h1 hc1 hk3)
  have cB := Aside0.mk (fun (W : World) (A : Option Addr) (c : Nat) (A1 : Option Addr) (c1 : Nat) (h : Kd.C k49 W A l.length l) (hc : l.length ≤ c) (h1 : Kd.C (Kd.int .u8) W A1 xs.length xs) (hc1 : xs.length ≤ c1) => vivariumref11_At.calls k4 st n A c l rt A1 c1 xs r1 r2 W h hc h1 hc1 hk4)
  have cD := Aside0.mk (fun (W : World) (A : Option Addr) (c : Nat) (A1 : Option Addr) (c1 : Nat) (h : Kd.C k49 W A L.length L) (hc : L.length ≤ c) (h1 : Kd.C (Kd.int .u8) W A1 xs.length xs) (hc1 : xs.length ≤ c1) => tree_At.calls k5 st n A c L rt A1 c1 xs q1 q2 W h hc h1 hc1 hk5)
  have cE := Aside0.mk (fun (W : World) (A : Option Addr) (c : Nat) (A1 : Option Addr) (c1 : Nat) (h : Kd.C k49 W A L.length L) (hc : L.length ≤ c) (h1 : Kd.C (Kd.int .u8) W A1 xs.length xs) (hc1 : xs.length ≤ c1) => vivariumref11_At.calls k6 st n A c L rt A1 c1 xs q1 q2 W h hc h1 hc1 hk6)
  have cL := Aside0.mk (fun (W : World) (hW : Below w.heap.size w W) => lent_calls st n A c l rt W (Kd.C_below hr hW) hc hl hk)
  have cM := Aside0.mk (fun (W : World) (A : Option Addr) (c : Nat) (h : Kd.C k49 W A L.length L) (hc : L.length ≤ c) => (lent_calls st n A c L rt W h hc (by omega) (fun j => by rw [hLk]; exact hk j)).mono (R' := fun e w' => ∃ gn cn, e = .returned (.agg #[.int .i64 st, .int .i64 n, .slice (some ⟨gn, 0, none⟩) L.length cn, .int .i64 rt]) ∧ (Kd.C k49 w' (some ⟨gn, 0, none⟩) L.length L ∧ L.length ≤ cn) ∧ Below W.heap.size W w') (fun e w' h => by
    obtain ⟨gn, cn, K, he, h1, h2⟩ := h
    exact ⟨gn, cn, he, ⟨h1.reads (by omega), Nat.le_of_add_right_le (own_cap h1.row)⟩, h2⟩))
  have cW := Aside0.mk hWP
  have cK := Aside0.mk (fun B gn cn K (W : World) (hL : LentAt B W (.slice (some ⟨gn, 0, none⟩) (l.length + 2) cn) l l.length 2 K) (hW : Below w.heap.size w W) => kept_calls B st n A c l rt gn cn K W hL (Kd.C_below hr hW) hc hl hk)
  rw [hLl] at cD cE cM
  have HR := Aside0.mk hr
  have HC := Aside0.mk hc
  have HX := Aside0.mk hx
  have HS := Aside0.mk (And.intro hl (And.intro hxl hxc))
  have HLL := Aside0.mk hLl
  have HP := Aside0.mk hp
  have HB := Aside0.mk (Below.refl w.heap.size w)
  have wx_ := wrap_small ((xs.length : Int) + 1) (by omega) (by omega)
  clear hr hc hx hl hk hy hxl hxc hxy hp hk1 hk2 hk3 hk4 hk5 hk6 hLl hLk hLy hWP
  go_enter Tryd.func8, Tryd.ntmps8
  go_upto_region 7 with (first
    | ((with_reducible refine gate_dst (N := 2) rfl ?_); refine box_event ?hg (N := 2) ?hd (cs := #[.int .i64 st, .int .i64 n, .slice A l.length c, .int .i64 rt]) (t := 24) ?hr ?_; (case hd => rfl); (case hg => rfl); (case hr => first | (go_simp; done) | (go_simp; rfl)); intro t2 hg W9 hbox hb; have n_ := below_step HB.out hb; clear HB; have HB := Aside0.mk n_; have BX := Aside0.mk hbox; clear n_ hg hbox hb)
    | (go_at_call 16; (with_reducible refine (AliveT.alive_calls _ (HP.out.on HB.out)).mono ?_); rintro e_ W8 ⟨rfl, hb⟩; have n_ := below_step HB.out hb; have m_ := blk_below BX.out hb; clear HB BX; have HB := Aside0.mk n_; have BX := Aside0.mk m_; obtain ⟨gc0, gc1, gc2, gc3⟩ := four m_; clear n_ m_ hb)
    | (go_at_call 35; (with_reducible refine (cL.out _ HB.out).mono ?_); rintro e_ W7 ⟨gn, cn, K, rfl, hl_, hb⟩; have LA := Aside0.mk (hl_.lower HB.out.size); have n_ := below_step HB.out hb; have m_ := blk_below BX.out hb; clear HB BX gc0 gc1 gc2 gc3; have HB := Aside0.mk n_; have BX := Aside0.mk m_; clear n_ m_ hl_ hb)
    | ((with_reducible refine gate_dst (N := 6) rfl ?_); refine box_event ?hg6 (N := 6) ?hd6 (cs := #[.int .i64 0, .int .i64 0, .slice none 0 0, .int .i64 0]) (t := 24) ?hr6 ?_; (case hd6 => rfl); (case hg6 => rfl); (case hr6 => first | (go_simp; done) | (go_simp; rfl)); intro t6 hg9 W6 hbox hb; have NB := Aside0.mk hbox; have hb9 := Aside0.mk hb; obtain ⟨y0_, y1_, y2_, y3_⟩ := four hbox; have z0_ := blk_frozen hbox 0; have z1_ := blk_frozen hbox 1; have z2_ := blk_frozen hbox 2; have z3_ := blk_frozen hbox 3; have GE := Aside0.mk hg9; clear hbox hb hg9)
    | ((with_reducible refine gate_store (t := 24) (p := 6) rfl ?_); refine store_event (t := 24) (p := 6) (v := ?vo_) (w1 := (((W6.setCell ⟨t6, 0, none⟩ (.int .i64 st)).setCell ⟨t6, 1, none⟩ (.int .i64 n)).setCell ⟨t6, 2, none⟩ (.slice (some ⟨gn, 0, none⟩) l.length cn)).setCell ⟨t6, 3, none⟩ (.int .i64 rt)) ?hgs ?hos ?hns ?hrs ?_; (case hos => rfl); (case hgs => rfl); (case hns => rfl); (case hrs => first | (go_simp; done) | (go_simp; rfl)); rintro W5 rfl; have hb_ : Below W7.heap.size W7 ((((W6.setCell ⟨t6, 0, none⟩ (.int .i64 st)).setCell ⟨t6, 1, none⟩ (.int .i64 n)).setCell ⟨t6, 2, none⟩ (.slice (some ⟨gn, 0, none⟩) l.length cn)).setCell ⟨t6, 3, none⟩ (.int .i64 rt)) := below_set (below_set (below_set (below_set hb9.out (Nat.le_of_eq GE.out.symm)) (Nat.le_of_eq GE.out.symm)) (Nat.le_of_eq GE.out.symm)) (Nat.le_of_eq GE.out.symm); have nb_ := blk_put (blk_put (blk_put (blk_put NB.out 0 (.int .i64 st) rfl) 1 (.int .i64 n) rfl) 2 (.slice (some ⟨gn, 0, none⟩) l.length cn) rfl) 3 (.int .i64 rt) rfl; have F := Aside0.mk (TA.mk (k := .u8) (ty := 5) (vf := .slice none 0 0) (ys := []) (blk_below BX.out hb_) nb_ (LA.out.on hb_) (Kd.R_nil _ _ _ _ _) (HB.out.trans (hb_.mono HB.out.size))); clear y0_ y1_ y2_ y3_ z0_ z1_ z2_ z3_ HB BX LA NB hb9 GE hb_ nb_; generalize (((W6.setCell ⟨t6, 0, none⟩ (.int .i64 st)).setCell ⟨t6, 1, none⟩ (.int .i64 n)).setCell ⟨t6, 2, none⟩ (.slice (some ⟨gn, 0, none⟩) l.length cn)).setCell ⟨t6, 3, none⟩ (.int .i64 rt) = W5 at *)
    | ((with_reducible refine gate_builtin (b := .append) (xs := #[.tmp 22, .tmp 23]) rfl ?_); at_builtin; refine Kd.R_append_rows (Kd.int .u8) (w0 := w) w.heap.size rfl (.tmp 22) (.tmp 23) 33 5 (.int .u8 0) 1 rfl Tryd.underlying33 (by kernel_rfl) rfl (by decide) (by omega) (.slice none 0 0) ([] : List Int) xs _ _ _ _ (fun _ => False) rfl rfl F.out.fu (Kd.C_below HX.out F.out.be) (fun _ _ h => h) (fun _ h => h.elim) F.out.new F.out.be F.out.be.size (by have := HS.out; simp; omega) ?_; intro v4 W4 ho hb hg hat; rw [List.nil_append] at ho; obtain ⟨A4, c4, rfl⟩ := Kd.R_slice ho; have F4 := Aside0.mk (F.out.grow (by decide) ho hb hg); clear F ho hb hg hat; have F := F4; clear F4)
    | ((with_reducible refine gate_builtin (b := .append) (xs := #[.tmp 25, .tmp 26]) rfl ?_); at_builtin; refine Kd.R_append_rows (Kd.int .u8) (w0 := w) w.heap.size rfl (.tmp 25) (.tmp 26) 33 5 (.int .u8 0) 1 rfl Tryd.underlying33 (by kernel_rfl) rfl (by decide) (by omega) (.slice A4 xs.length c4) xs ([201, 202] : List Int) _ _ _ _ (fun _ => False) rfl rfl (Kd.R_alloc F.out.fu _) (lit_c (e := 5) .u8 [201, 202] (by decide)) (fun _ _ h => h) (fun _ h => h.elim) (fun q hq => F.out.new q (Nat.le_trans (by simp) hq)) (below_alloc F.out.be _) (Nat.le_trans F.out.be.size (by simp)) (by have := HS.out; simp; omega) ?_; intro v3 W3 ho hb hg hat; have F4 := Aside0.mk ((F.out.on (below_alloc (Below.refl _ _) _)).grow (by decide) ho hb hg); obtain ⟨gf, cf, hv_, _, _⟩ := Kd.R_form ho (by simp); rw [len2] at hv_; subst hv_; clear F ho hb hg hat; have F := F4; clear F4; obtain ⟨⟨a0_, a1_, a2_, a3_⟩, ⟨b0_, b1_, b2_, b3_⟩⟩ := F.out.cells)
    | (go_at_call 22; (with_reducible refine (cC.out _ _ _ (F.out.la.reads (by have := HS.out; omega)) (Nat.le_of_add_right_le (own_cap F.out.la.row))).mono ?_); rintro e_ W2 ⟨rfl, hb⟩; have F4 := Aside0.mk (F.out.on hb); clear F hb; have F := F4; clear F4; clear a0_ a1_ a2_ a3_ b0_ b1_ b2_ b3_; obtain ⟨⟨a0_, a1_, a2_, a3_⟩, ⟨b0_, b1_, b2_, b3_⟩⟩ := F.out.cells))
  have cap_ : ((xs.length : Nat) : Int) ≤ (cf : Int) := by have := F.out.front.2; omega
  refine start_ (n := 11) (S := fun w' => w'.cell? ⟨t6, 0, none⟩ = some (.int .i64 st) ∧ w'.cell? ⟨t6, 1, none⟩ = some (.int .i64 n) ∧ w'.cell? ⟨t6, 2, none⟩ = some (.slice (some ⟨gn, 0, none⟩) l.length cn) ∧ w'.cell? ⟨t6, 3, none⟩ = some (.int .i64 rt)) (ds := []) #[false, false, false, false, false, false, false, false, false, false, false] (by kernel_rfl) rfl rfl F.out.cells.2 (fun hHeld => ?_)
  have FX := Aside0.mk (F.out.on (below_drew (Below.refl _ _)))
  generalize (World.drew _) = wx at FX hHeld ⊢
  clear F a0_ a1_ a2_ a3_ b0_ b1_ b2_ b3_
  refine take_ (i := 0) (N := (some 31)) (v := ?_) (a' := ?_) #[true, false, false, false, false, false, false, false, false, false, false] rfl rfl (by kernel_rfl) (fun _ _ _ h => h) (Or.inl ⟨by rfl, ?_⟩) hHeld ?_ ?_
  rotate_left
  · rintro w' ⟨s0, s1, s2, s3⟩
    go_simp
    with_reducible rfl
  rotate_left
  · simp only [Act.put, List.setIfInBounds_toArray, List.set_cons_zero, List.set_cons_succ, i64_w, i32_w]
    rfl
  refine pure_ (i := 1) (N := (some 32)) (v := ?_) (a' := ?_) #[true, true, false, false, false, false, false, false, false, false, false] rfl rfl (by kernel_rfl) (fun _ _ _ h => h) (Or.inl ⟨by rfl, ?_⟩) ?_ ?_
  rotate_left
  · intro w'
    go_simp
    with_reducible rfl
  rotate_left
  · simp only [Act.put, List.setIfInBounds_toArray, List.set_cons_zero, List.set_cons_succ, i64_w, i32_w]
    rfl
  refine pure_ (i := 2) (N := (some 33)) (v := ?_) (a' := ?_) #[true, true, true, false, false, false, false, false, false, false, false] rfl rfl (by kernel_rfl) (fun _ _ _ h => h) (Or.inl ⟨by rfl, ?_⟩) ?_ ?_
  rotate_left
  · intro w'
    go_simp
    with_reducible rfl
  rotate_left
  · simp only [Act.put, List.setIfInBounds_toArray, List.set_cons_zero, List.set_cons_succ, i64_w, i32_w]
    rfl
  refine pure_ (i := 3) (N := (some 34)) (v := ?_) (a' := ?_) #[true, true, true, true, false, false, false, false, false, false, false] rfl rfl (by kernel_rfl) (fun _ _ _ h => h) (Or.inl ⟨by rfl, ?_⟩) ?_ ?_
  rotate_left
  · intro w'
    go_simp
    with_reducible rfl
  rotate_left
  · simp only [Act.put, List.setIfInBounds_toArray, List.set_cons_zero, List.set_cons_succ, i64_w, i32_w]
    rfl
  refine pure_ (i := 4) (N := (some 35)) (v := ?_) (a' := ?_) #[true, true, true, true, true, false, false, false, false, false, false] rfl rfl (by kernel_rfl) (fun _ _ _ h => h) (Or.inl ⟨by rfl, ?_⟩) ?_ ?_
  rotate_left
  · intro w'
    go_simp
    with_reducible rfl
  rotate_left
  · simp only [Act.put, List.setIfInBounds_toArray, List.set_cons_zero, List.set_cons_succ, i64_w, i32_w]
    rfl
  refine one_ (i := 5) (N := (some 36)) #[true, true, true, true, true, true, false, false, false, false, false] rfl rfl (by kernel_rfl) (by decide) (fun K hK => ?_)
  refine goes_ Tryd.func24 (by kernel_rfl) rfl #[.agg #[.int .i64 st, .int .i64 n, .slice (some ⟨gn, 0, none⟩) l.length cn, .int .i64 rt], .slice (some ⟨gf, 0, none⟩) xs.length cf] (by rfl) rfl rfl (by (try simp only [List.map_toArray, List.map_cons, List.map_nil]); first | done | rfl) ?_
  with_reducible refine (cA.out wx (some ⟨gn, 0, none⟩) cn (some ⟨gf, 0, none⟩) cf (FX.out.la.reads (by have := HS.out; omega)) (Nat.le_of_add_right_le (own_cap FX.out.la.row)) FX.out.front.1 FX.out.front.2).mono ?_
  rintro en_ w3 ⟨rfl, hb⟩
  refine ⟨_, rfl, ?_⟩
  have F3 := Aside0.mk (FX.out.on hb)
  clear hb
  refine hK.out _ _ F3.out.cells.2 (fun hHeld => ?_)
  clear hK K
  refine pure_ (i := 6) (N := (some 30)) (v := ?_) (a' := ?_) #[true, true, true, true, true, true, true, false, false, false, false] rfl rfl (by kernel_rfl) (fun _ _ _ h => h) (Or.inl ⟨by rfl, ?_⟩) ?_ ?_
  rotate_left
  · intro w'
    go_simp
    with_reducible rfl
  rotate_left
  · simp only [Act.put, List.setIfInBounds_toArray, List.set_cons_zero, List.set_cons_succ, i64_w, i32_w]
    rfl
  refine pure_ (i := 7) (N := (some 37)) (v := ?_) (a' := ?_) #[true, true, true, true, true, true, true, true, false, false, false] rfl rfl (by kernel_rfl) (fun _ _ _ h => h) (Or.inl ⟨by rfl, ?_⟩) ?_ ?_
  rotate_left
  · intro w'
    go_simp
    with_reducible rfl
  rotate_left
  · simp only [Act.put, List.setIfInBounds_toArray, List.set_cons_zero, List.set_cons_succ, i64_w, i32_w]
    rfl
  refine pure_ (i := 8) (N := (some 38)) (v := ?_) (a' := ?_) #[true, true, true, true, true, true, true, true, true, false, false] rfl rfl (by kernel_rfl) (fun _ _ _ h => h) (Or.inl ⟨by rfl, ?_⟩) ?_ ?_
  rotate_left
  · intro w'
    go_simp
    with_reducible rfl
  rotate_left
  · simp only [Act.put, List.setIfInBounds_toArray, List.set_cons_zero, List.set_cons_succ, i64_w, i32_w]
    rfl
  refine pure_ (i := 9) (N := (some 9)) (v := ?_) (a' := ?_) #[true, true, true, true, true, true, true, true, true, true, false] rfl rfl (by kernel_rfl) (fun _ _ _ h => h) (Or.inl ⟨by rfl, ?_⟩) ?_ ?_
  rotate_left
  · intro w'
    go_simp
    with_reducible rfl
  rotate_left
  · simp only [Act.put, List.setIfInBounds_toArray, List.set_cons_zero, List.set_cons_succ, i64_w, i32_w]
    rfl
  refine pure_ (i := 10) (N := (some 10)) (v := ?_) (a' := ?_) #[true, true, true, true, true, true, true, true, true, true, true] rfl rfl (by kernel_rfl) (fun _ _ _ h => h) (Or.inl ⟨by rfl, ?_⟩) ?_ ?_
  rotate_left
  · intro w'
    go_simp
    with_reducible rfl
  rotate_left
  · simp only [Act.put, List.setIfInBounds_toArray, List.set_cons_zero, List.set_cons_succ, i64_w, i32_w]
    rfl
  refine done_ (by kernel_rfl) ?_
  have F := F3
  clear F3 FX
  obtain ⟨⟨a0_, a1_, a2_, a3_⟩, ⟨b0_, b1_, b2_, b3_⟩⟩ := F.out.cells
  go_wp2_with (first
    | (go_at_call 36; (with_reducible refine (cB.out _ A c A1 c1 (Kd.C_below HR.out F.out.be) HC.out (Kd.C_below HX.out F.out.be) HS.out.2.2).mono ?_); rintro e_ W2 ⟨rfl, hb⟩; have F4 := Aside0.mk (F.out.on hb); clear F hb; have F := F4; clear F4; clear a0_ a1_ a2_ a3_ b0_ b1_ b2_ b3_; obtain ⟨⟨a0_, a1_, a2_, a3_⟩, ⟨b0_, b1_, b2_, b3_⟩⟩ := F.out.cells)
    | (go_at_call 37; (with_reducible refine (cK.out _ _ _ _ _ F.out.la F.out.be).mono ?_); rintro e_ W2 ⟨rfl, hb⟩; have F4 := Aside0.mk (F.out.on hb); clear F hb; have F := F4; clear F4; clear a0_ a1_ a2_ a3_ b0_ b1_ b2_ b3_; obtain ⟨⟨a0_, a1_, a2_, a3_⟩, ⟨b0_, b1_, b2_, b3_⟩⟩ := F.out.cells))
  clear a0_ a1_ a2_ a3_ b0_ b1_ b2_ b3_
  go_loopg [14] xs.length (fun g_ s14 wq => ∃ (x : Int), s14 = .int .i64 x ∧ Aside0 (0 ≤ x ∧ (g_ : Int) = xs.length - x) ∧ Aside0 (TA w wq st n rt A c l t2 t6 gn cn K l .u8 5 (.slice (some ⟨gf, 0, none⟩) (xs.length + 2) cf) (xs ++ [201, 202])))
  case atStart => exact ⟨0, rfl, ⟨by omega, by omega⟩, F⟩
  case round =>
    clear F
    obtain ⟨x, rfl, HX2, F⟩ := hrel
    by_cases q : x < (xs.length : Int)
    case pos =>
      have p0 : 0 ≤ x := HX2.out.1
      have w1_ := wrap_small (x + 1) (by omega) (by have := HS.out; omega)
      have r_ : x < (xs.length : Int) + 2 := by omega
      obtain ⟨adf, ef, u0_⟩ := Kd.at_int F.out.front.1 x p0 q
      obtain rfl : (⟨gf, 0, none⟩ : Addr) = adf := Option.some.inj ef
      rw [addr_add] at u0_
      obtain ⟨ad1, rfl, u1_⟩ := Kd.at_int (Kd.C_below HX.out F.out.be) x p0 q
      generalize rd xs x = v at *
      have HU := Aside0.mk (show wr.cell? ⟨gf, x.toNat, none⟩ = some (.int .u8 v) ∧ wr.cell? (ad1.add x.toNat) = some (.int .u8 v) from ⟨u0_, u1_⟩)
      clear u0_ u1_ ef
      go_upto_region 13 with fail
      refine start_ (n := 9) (S := fun w' => w'.cell? ⟨gf, x.toNat, none⟩ = some (.int .u8 v) ∧ w'.cell? (ad1.add x.toNat) = some (.int .u8 v)) (ds := []) #[false, false, false, false, false, false, false, false, false] (by kernel_rfl) rfl rfl HU.out (fun hHeld => ?_)
      have FX := Aside0.mk (F.out.on (below_drew (Below.refl _ _)))
      generalize (World.drew _) = wx at FX hHeld ⊢
      clear F HU
      refine pure_ (i := 0) (N := (some 54)) (v := ?_) (a' := ?_) #[true, false, false, false, false, false, false, false, false] rfl rfl (by kernel_rfl) (fun _ _ _ h => h) (Or.inl ⟨by rfl, ?_⟩) ?_ ?_
      rotate_left
      · intro w'
        go_simp
        with_reducible rfl
      rotate_left
      · simp only [Act.put, List.setIfInBounds_toArray, List.set_cons_zero, List.set_cons_succ, i64_w, i32_w]
        rfl
      refine pure_ (i := 1) (N := (some 55)) (v := ?_) (a' := ?_) #[true, true, false, false, false, false, false, false, false] rfl rfl (by kernel_rfl) (fun _ _ _ h => h) (Or.inl ⟨by rfl, ?_⟩) ?_ ?_
      rotate_left
      · intro w'
        go_simp
        with_reducible rfl
      rotate_left
      · simp only [Act.put, List.setIfInBounds_toArray, List.set_cons_zero, List.set_cons_succ, i64_w, i32_w]
        rfl
      refine pure_ (i := 2) (N := (some 56)) (v := ?_) (a' := ?_) #[true, true, true, false, false, false, false, false, false] rfl rfl (by kernel_rfl) (fun _ _ _ h => h) (Or.inl ⟨by rfl, ?_⟩) ?_ ?_
      rotate_left
      · intro w'
        go_simp
        with_reducible rfl
      rotate_left
      · simp only [Act.put, List.setIfInBounds_toArray, List.set_cons_zero, List.set_cons_succ, i64_w, i32_w]
        rfl
      refine take_ (i := 3) (N := (some 57)) (v := ?_) (a' := ?_) #[true, true, true, true, false, false, false, false, false] rfl rfl (by kernel_rfl) (fun _ _ _ h => h) (Or.inl ⟨by rfl, ?_⟩) hHeld ?_ ?_
      rotate_left
      · rintro w' ⟨s0, s1⟩
        go_simp
        with_reducible rfl
      rotate_left
      · simp only [Act.put, List.setIfInBounds_toArray, List.set_cons_zero, List.set_cons_succ, i64_w, i32_w]
        rfl
      refine pure_ (i := 4) (N := (some 58)) (v := ?_) (a' := ?_) #[true, true, true, true, true, false, false, false, false] rfl rfl (by kernel_rfl) (fun _ _ _ h => h) (Or.inl ⟨by rfl, ?_⟩) ?_ ?_
      rotate_left
      · intro w'
        go_simp
        with_reducible rfl
      rotate_left
      · simp only [Act.put, List.setIfInBounds_toArray, List.set_cons_zero, List.set_cons_succ, i64_w, i32_w]
        rfl
      refine pure_ (i := 5) (N := (some 59)) (v := ?_) (a' := ?_) #[true, true, true, true, true, true, false, false, false] rfl rfl (by kernel_rfl) (fun _ _ _ h => h) (Or.inl ⟨by rfl, ?_⟩) ?_ ?_
      rotate_left
      · intro w'
        go_simp
        with_reducible rfl
      rotate_left
      · simp only [Act.put, List.setIfInBounds_toArray, List.set_cons_zero, List.set_cons_succ, i64_w, i32_w]
        rfl
      refine pure_ (i := 6) (N := (some 60)) (v := ?_) (a' := ?_) #[true, true, true, true, true, true, true, false, false] rfl rfl (by kernel_rfl) (fun _ _ _ h => h) (Or.inl ⟨by rfl, ?_⟩) ?_ ?_
      rotate_left
      · intro w'
        go_simp
        with_reducible rfl
      rotate_left
      · simp only [Act.put, List.setIfInBounds_toArray, List.set_cons_zero, List.set_cons_succ, i64_w, i32_w]
        rfl
      refine take_ (i := 7) (N := (some 61)) (v := ?_) (a' := ?_) #[true, true, true, true, true, true, true, true, false] rfl rfl (by kernel_rfl) (fun _ _ _ h => h) (Or.inl ⟨by rfl, ?_⟩) hHeld ?_ ?_
      rotate_left
      · rintro w' ⟨s0, s1⟩
        go_simp
        with_reducible rfl
      rotate_left
      · simp only [Act.put, List.setIfInBounds_toArray, List.set_cons_zero, List.set_cons_succ, i64_w, i32_w]
        rfl
      refine pure_ (i := 8) (N := (some 62)) (v := ?_) (a' := ?_) #[true, true, true, true, true, true, true, true, true] rfl rfl (by kernel_rfl) (fun _ _ _ h => h) (Or.inl ⟨by rfl, ?_⟩) ?_ ?_
      rotate_left
      · intro w'
        go_simp
        with_reducible rfl
      rotate_left
      · simp only [Act.put, List.setIfInBounds_toArray, List.set_cons_zero, List.set_cons_succ, i64_w, i32_w]
        rfl
      refine done_ (by kernel_rfl) ?_
      go_wp2
      go_roundg (xs.length - (x + 1).toNat)
      case measure => go_light; have := HX2.out; omega
      case rel =>
        go_light
        exact ⟨x + 1, by simp [w1_], ⟨by omega, by have := HX2.out; omega⟩, FX⟩
    case neg =>
      obtain ⟨⟨a0_, a1_, a2_, a3_⟩, ⟨b0_, b1_, b2_, b3_⟩⟩ := F.out.cells
      go_upto_region 16 with (first
        | (go_at_call 38; (with_reducible refine (cW.out w.heap.size gn cn K _ F.out.la F.out.be.size).mono ?_); rintro e_ W2 ⟨rfl, hl_, hb, hq_⟩; have F4 := Aside0.mk (F.out.wiped hl_ hb hq_); clear F hl_ hb hq_; have F := F4; clear F4; clear a0_ a1_ a2_ a3_ b0_ b1_ b2_ b3_; obtain ⟨⟨a0_, a1_, a2_, a3_⟩, ⟨b0_, b1_, b2_, b3_⟩⟩ := F.out.cells))
      refine start_ (n := 11) (S := fun w' => w'.cell? ⟨t6, 0, none⟩ = some (.int .i64 st) ∧ w'.cell? ⟨t6, 1, none⟩ = some (.int .i64 n) ∧ w'.cell? ⟨t6, 2, none⟩ = some (.slice (some ⟨gn, 0, none⟩) l.length cn) ∧ w'.cell? ⟨t6, 3, none⟩ = some (.int .i64 rt)) (ds := []) #[false, false, false, false, false, false, false, false, false, false, false] (by kernel_rfl) rfl rfl F.out.cells.2 (fun hHeld => ?_)
      have FX := Aside0.mk (F.out.on (below_drew (Below.refl _ _)))
      generalize (World.drew _) = wx at FX hHeld ⊢
      clear F a0_ a1_ a2_ a3_ b0_ b1_ b2_ b3_
      refine take_ (i := 0) (N := (some 66)) (v := ?_) (a' := ?_) #[true, false, false, false, false, false, false, false, false, false, false] rfl rfl (by kernel_rfl) (fun _ _ _ h => h) (Or.inl ⟨by rfl, ?_⟩) hHeld ?_ ?_
      rotate_left
      · rintro w' ⟨s0, s1, s2, s3⟩
        go_simp
        with_reducible rfl
      rotate_left
      · simp only [Act.put, List.setIfInBounds_toArray, List.set_cons_zero, List.set_cons_succ, i64_w, i32_w]
        rfl
      refine pure_ (i := 1) (N := (some 67)) (v := ?_) (a' := ?_) #[true, true, false, false, false, false, false, false, false, false, false] rfl rfl (by kernel_rfl) (fun _ _ _ h => h) (Or.inl ⟨by rfl, ?_⟩) ?_ ?_
      rotate_left
      · intro w'
        go_simp
        with_reducible rfl
      rotate_left
      · simp only [Act.put, List.setIfInBounds_toArray, List.set_cons_zero, List.set_cons_succ, i64_w, i32_w]
        rfl
      refine pure_ (i := 2) (N := (some 68)) (v := ?_) (a' := ?_) #[true, true, true, false, false, false, false, false, false, false, false] rfl rfl (by kernel_rfl) (fun _ _ _ h => h) (Or.inl ⟨by rfl, ?_⟩) ?_ ?_
      rotate_left
      · intro w'
        go_simp
        with_reducible rfl
      rotate_left
      · simp only [Act.put, List.setIfInBounds_toArray, List.set_cons_zero, List.set_cons_succ, i64_w, i32_w]
        rfl
      refine pure_ (i := 3) (N := (some 69)) (v := ?_) (a' := ?_) #[true, true, true, true, false, false, false, false, false, false, false] rfl rfl (by kernel_rfl) (fun _ _ _ h => h) (Or.inl ⟨by rfl, ?_⟩) ?_ ?_
      rotate_left
      · intro w'
        go_simp
        with_reducible rfl
      rotate_left
      · simp only [Act.put, List.setIfInBounds_toArray, List.set_cons_zero, List.set_cons_succ, i64_w, i32_w]
        rfl
      refine pure_ (i := 4) (N := (some 70)) (v := ?_) (a' := ?_) #[true, true, true, true, true, false, false, false, false, false, false] rfl rfl (by kernel_rfl) (fun _ _ _ h => h) (Or.inl ⟨by rfl, ?_⟩) ?_ ?_
      rotate_left
      · intro w'
        go_simp
        with_reducible rfl
      rotate_left
      · simp only [Act.put, List.setIfInBounds_toArray, List.set_cons_zero, List.set_cons_succ, i64_w, i32_w]
        rfl
      refine one_ (i := 5) (N := (some 71)) #[true, true, true, true, true, true, false, false, false, false, false] rfl rfl (by kernel_rfl) (by decide) (fun K hK => ?_)
      refine goes_ Tryd.func24 (by kernel_rfl) rfl #[.agg #[.int .i64 st, .int .i64 n, .slice (some ⟨gn, 0, none⟩) l.length cn, .int .i64 rt], .slice (some ⟨gf, 0, none⟩) xs.length cf] (by rfl) rfl rfl (by (try simp only [List.map_toArray, List.map_cons, List.map_nil]); first | done | rfl) ?_
      with_reducible refine (cD.out wx (some ⟨gn, 0, none⟩) cn (some ⟨gf, 0, none⟩) cf (readsL FX.out.la HLL.out (by have := HS.out; omega)) (Nat.le_of_add_right_le (own_cap FX.out.la.row)) FX.out.front.1 FX.out.front.2).mono ?_
      rintro en_ w3 ⟨rfl, hb⟩
      refine ⟨_, rfl, ?_⟩
      have F3 := Aside0.mk (FX.out.on hb)
      clear hb
      refine hK.out _ _ F3.out.cells.2 (fun hHeld => ?_)
      clear hK K
      refine pure_ (i := 6) (N := (some 65)) (v := ?_) (a' := ?_) #[true, true, true, true, true, true, true, false, false, false, false] rfl rfl (by kernel_rfl) (fun _ _ _ h => h) (Or.inl ⟨by rfl, ?_⟩) ?_ ?_
      rotate_left
      · intro w'
        go_simp
        with_reducible rfl
      rotate_left
      · simp only [Act.put, List.setIfInBounds_toArray, List.set_cons_zero, List.set_cons_succ, i64_w, i32_w]
        rfl
      refine pure_ (i := 7) (N := (some 72)) (v := ?_) (a' := ?_) #[true, true, true, true, true, true, true, true, false, false, false] rfl rfl (by kernel_rfl) (fun _ _ _ h => h) (Or.inl ⟨by rfl, ?_⟩) ?_ ?_
      rotate_left
      · intro w'
        go_simp
        with_reducible rfl
      rotate_left
      · simp only [Act.put, List.setIfInBounds_toArray, List.set_cons_zero, List.set_cons_succ, i64_w, i32_w]
        rfl
      refine pure_ (i := 8) (N := (some 73)) (v := ?_) (a' := ?_) #[true, true, true, true, true, true, true, true, true, false, false] rfl rfl (by kernel_rfl) (fun _ _ _ h => h) (Or.inl ⟨by rfl, ?_⟩) ?_ ?_
      rotate_left
      · intro w'
        go_simp
        with_reducible rfl
      rotate_left
      · simp only [Act.put, List.setIfInBounds_toArray, List.set_cons_zero, List.set_cons_succ, i64_w, i32_w]
        rfl
      refine pure_ (i := 9) (N := (some 15)) (v := ?_) (a' := ?_) #[true, true, true, true, true, true, true, true, true, true, false] rfl rfl (by kernel_rfl) (fun _ _ _ h => h) (Or.inl ⟨by rfl, ?_⟩) ?_ ?_
      rotate_left
      · intro w'
        go_simp
        with_reducible rfl
      rotate_left
      · simp only [Act.put, List.setIfInBounds_toArray, List.set_cons_zero, List.set_cons_succ, i64_w, i32_w]
        rfl
      refine pure_ (i := 10) (N := (some 16)) (v := ?_) (a' := ?_) #[true, true, true, true, true, true, true, true, true, true, true] rfl rfl (by kernel_rfl) (fun _ _ _ h => h) (Or.inl ⟨by rfl, ?_⟩) ?_ ?_
      rotate_left
      · intro w'
        go_simp
        with_reducible rfl
      rotate_left
      · simp only [Act.put, List.setIfInBounds_toArray, List.set_cons_zero, List.set_cons_succ, i64_w, i32_w]
        rfl
      refine done_ (by kernel_rfl) ?_
      have F := F3
      clear F3 FX
      obtain ⟨⟨a0_, a1_, a2_, a3_⟩, ⟨b0_, b1_, b2_, b3_⟩⟩ := F.out.cells
      go_wp2_with (first
        | (go_at_call 35; (with_reducible refine (cM.out _ _ _ (readsL F.out.la HLL.out (by have := HS.out; omega)) (Nat.le_of_add_right_le (own_cap F.out.la.row))).mono ?_); rintro e_ W2 ⟨gn2, cn2, rfl, hR2, hb⟩; have HR2 := Aside0.mk hR2; have F4 := Aside0.mk (F.out.on hb); clear F hb hR2; have F := F4; clear F4; clear a0_ a1_ a2_ a3_ b0_ b1_ b2_ b3_; obtain ⟨⟨a0_, a1_, a2_, a3_⟩, ⟨b0_, b1_, b2_, b3_⟩⟩ := F.out.cells)
        | (go_at_call 36; (with_reducible refine (cE.out _ _ cn2 A1 c1 HR2.out.1 HR2.out.2 (Kd.C_below HX.out F.out.be) HS.out.2.2).mono ?_); rintro e_ W2 ⟨rfl, hb⟩; have F4 := Aside0.mk (F.out.on hb); clear F HR2 hb; have F := F4; clear F4; clear a0_ a1_ a2_ a3_ b0_ b1_ b2_ b3_; obtain ⟨⟨a0_, a1_, a2_, a3_⟩, ⟨b0_, b1_, b2_, b3_⟩⟩ := F.out.cells; obtain ⟨m0_, m1_⟩ := F.out.marks)
        | (go_at_call 39; (with_reducible refine (cR.out _ _ _ (Kd.C_below HR.out F.out.be) HC.out).mono ?_); rintro e_ W2 ⟨rfl, hb⟩; have F4 := Aside0.mk (F.out.on hb); clear F m0_ m1_ hb; have F := F4; clear F4; clear a0_ a1_ a2_ a3_ b0_ b1_ b2_ b3_; obtain ⟨⟨a0_, a1_, a2_, a3_⟩, ⟨b0_, b1_, b2_, b3_⟩⟩ := F.out.cells; obtain ⟨m0_, m1_⟩ := F.out.marks))
      go_ret
      exact ⟨by simp, F.out.be⟩
end Go.Proofs.YtbnonnogkgbpiaaDoor.LentT
end
section
namespace Go.Proofs.YtbnonnogkgbpiaaDoor.OpenTree
open Go Go.RowKit Go.ChangeShapes Go.WideShapes Go.Deep Go.Proofs.YtbnonnogkgbpiaaDoorW.PrintWords Go.Proofs.YtbnonnogkgbpiaaDoor.PT Go.Proofs.YtbnonnogkgbpiaaDoor.TreePlain
set_option linter.unusedVariables false
set_option linter.unusedSimpArgs false
set_option maxRecDepth 100000
theorem cells5 : Tryd.prog.cellsOf 5 = 1 := by kernel_rfl
theorem cells47 : Tryd.prog.cellsOf 47 = 1 := by kernel_rfl
theorem cells49 : Tryd.prog.cellsOf 49 = 2 := by kernel_rfl
theorem bulk_pos {H : Type} (d : DataW H) : 1 ≤ Rows.uptoBulk d := by
  cases d with
  | lit l => cases l <;> simp [Rows.uptoBulk]
  | _ => simp [Rows.uptoBulk]
theorem bulk_mem {H : Type} : ∀ (l : List (DataW H)) (d : DataW H), d ∈ l → Rows.uptoBulk d ≤ Rows.uptoBulkAll l
  | x :: l, d, h => by
    simp only [Rows.uptoBulkAll]
    rcases List.mem_cons.1 h with rfl | h
    · omega
    · have := bulk_mem l d h
      omega
theorem bulk_len {H : Type} : ∀ (l : List (DataW H)), l.length ≤ Rows.uptoBulkAll l
  | [] => Nat.zero_le _
  | x :: l => by
    simp only [Rows.uptoBulkAll, List.length_cons]
    have := bulk_len l
    have := bulk_pos x
    omega
theorem bulk_slice {H : Type} (e s : List (DataW H)) : e.length ≤ Rows.uptoBulk (.slice e s) := by
  simp only [Rows.uptoBulk]
  have := bulk_len e
  omega
def wfs (l : List Int) : Prop := ∀ v ∈ l, (Lit.int .i64 v).wf = true
section
variable {H : Type} {enc : TypeId × Value → H} {w : World} {base n : Nat} {held : Bool}
theorem open_ints' {k : IntKind} {t e : TypeId} {v : Value} {x : DataW H × List MemPlace} {spare : Nat → Bool} (ht : Tryd.prog.underlying t = some (.slice e)) (he : Tryd.prog.underlying e = some (.int k)) (hc : Tryd.prog.cellsOf e = 1)
    (h : DataW.trod enc Tryd.prog w base spare held n t [v] = some x) : ∃ (A : Option Addr) (c : Nat) (zs : List Int), v = .slice A zs.length c ∧ zs.length ≤ c ∧ Kd.C (Kd.int k) w A zs.length zs ∧ (∀ v ∈ zs, (Lit.int k v).wf = true) ∧ (zs.length = 0 ∨ ∃ elems rest, elems.length = zs.length ∧ x.1 = .slice elems rest) := by
  rcases Go.ChangeShapes.open_ints ht he hc h with ⟨h1, _⟩ | ⟨a, len, cap, zs, h1, _, hl, hm, hz, hx, hcell, hwf⟩
  · obtain rfl : v = .slice none 0 0 := by simpa using h1
    exact ⟨none, 0, [], rfl, Nat.le_refl _, Kd.C_nil _ _, fun v hv => by simp at hv, .inl rfl⟩
  · obtain rfl : v = .slice (some a) len cap := by simpa using h1
    have hzl : len ≤ zs.length := by rw [hz]; split <;> omega
    have hlen : (zs.take len).length = len := by simp; omega
    refine ⟨some a, cap, zs.take len, by rw [hlen], by rw [hlen]; exact hl, ⟨rfl, by rw [hlen]; simp [maxLen] at hm; omega, fun _ => ⟨a, rfl, fun j p hj => ⟨[.int k p], rfl, rfl, fun i u hu => ?_⟩⟩⟩, fun q hq => hwf q (List.mem_of_mem_take hq), .inr ⟨_, _, ?_, by rw [hx]⟩⟩
    · have hj' : j < len := by
        have := (List.getElem?_eq_some_iff.1 hj).1
        omega
      have hp : zs[j]? = some p := by rwa [List.getElem?_take_of_lt hj'] at hj
      match i, hu with
      | 0, hu =>
        obtain rfl : Value.int k p = u := by simpa using hu
        have := hcell j (by omega)
        rw [List.getD_eq_getElem?_getD, hp] at this
        simpa [Kd.int, Kd.scalar] using this
      | i + 1, hu => simp at hu
    · simp [Go.ChangeShapes.lits]
theorem open_list {k : IntKind} {t e : TypeId} {v : Value} {r : Reach} {b0 : Nat} {d : DataW H} {p : List MemPlace} (ht : Tryd.prog.underlying t = some (.slice e)) (he : Tryd.prog.underlying e = some (.int k)) (hc : Tryd.prog.cellsOf e = 1)
    (hv : Value.okWide Tryd.prog w r b0 t v) (h : DataW.Trod enc Tryd.prog w base (fun _ => true) held t v d p) (hbk : Rows.uptoBulk d ≤ 1048576) :
    ∃ (A : Option Addr) (c : Nat) (zs : List Int), v = .slice A zs.length c ∧ zs.length ≤ c ∧ Kd.C (Kd.int k) w A zs.length zs ∧ (∀ v ∈ zs, (Lit.int k v).wf = true) ∧ zs.length ≤ 1048576 := by
  obtain ⟨a0, len0, cap0, rfl⟩ := okWide_slice ht hv
  obtain ⟨fuel, hf⟩ := h
  obtain ⟨A, c, zs, e1, h1, h2, h3, h4⟩ := open_ints' ht he hc hf
  refine ⟨A, c, zs, e1, h1, h2, h3, ?_⟩
  rcases h4 with h0 | ⟨el, sp, hel, hd⟩
  · omega
  · have hd : d = .slice el sp := hd
    have := bulk_slice el sp
    rw [hd] at hbk
    omega
theorem byte_wf {zs : List Int} (h : ∀ v ∈ zs, (Lit.int .u8 v).wf = true) : ∀ v ∈ zs, 0 ≤ v ∧ v ≤ 255 := fun v hv => by
  have := h v hv
  simp [Lit.wf, IntKind.min, IntKind.max, IntKind.bits, IntKind.signed] at this
  omega
theorem choose_lt {α : Type} [Inhabited α] {P : Nat → α → Prop} : ∀ {m : Nat}, (∀ i, i < m → ∃ q, P i q) → ∃ f : Nat → α, ∀ i, i < m → P i (f i)
  | 0, _ => ⟨fun _ => default, fun i hi => absurd hi (Nat.not_lt_zero i)⟩
  | m + 1, h => by
    obtain ⟨f, hf⟩ := choose_lt (m := m) (fun i hi => h i (by omega))
    obtain ⟨q, hq⟩ := h m (Nat.lt_succ_self m)
    refine ⟨fun i => if i = m then q else f i, fun i hi => ?_⟩
    by_cases e : i = m
    · subst e
      simpa using hq
    · simp only [if_neg e]
      exact hf i (by omega)
theorem open_nodes {v : Value} {x : DataW H × List MemPlace} (hbk : Rows.uptoBulk x.1 ≤ 1048576) (h : DataW.trod enc Tryd.prog w base (fun _ => true) held n 22 [v] = some x) :
    ∃ (A : Option Addr) (c : Nat) (l : List S49), v = .slice A l.length c ∧ l.length ≤ c ∧ Kd.C k49 w A l.length l ∧ Bytes l ∧ l.length ≤ 1048576 ∧ (∀ j, (nd l j).f1.length ≤ 1048576) ∧ ∀ y ∈ l, wfs y.f1 := by
  rcases open_slice_pairs Tryd.underlying22 Tryd.underlying49 cells49 rfl rfl cells5 cells47 h with ⟨h1, _⟩ | ⟨ad, len, cap, m, n', V0, V1, D0, D1, P0, P1, h1, _, hl, hm, hmm, hx, hall⟩
  · obtain rfl : v = .slice none 0 0 := by simpa using h1
    exact ⟨none, 0, [], rfl, Nat.le_refl _, Kd.C_nil _ _, fun y hy => by simp at hy, Nat.zero_le _, fun j => by simp [nd, z49], fun y hy => by simp at hy⟩
  · obtain rfl : v = .slice (some ad) len cap := by simpa using h1
    have hlm : len ≤ m := by rw [hmm]; split <;> omega
    have hd2 : x.1 = .slice ((List.range len).map fun i => .agg [D0 i, D1 i]) ((List.range (m - len)).map fun j => .agg [D0 (len + j), D1 (len + j)]) := congrArg Prod.fst hx
    have each : ∀ i, i < len → ∃ q : Int × Option Addr × Nat × List Int, V0 i = .int .u8 q.1 ∧ V1 i = .slice q.2.1 q.2.2.2.length q.2.2.1 ∧ q.2.2.2.length ≤ q.2.2.1 ∧ Kd.C (Kd.int .i64) w q.2.1 q.2.2.2.length q.2.2.2 ∧ wfs q.2.2.2 ∧ q.2.2.2.length ≤ 1048576 ∧ (0 ≤ q.1 ∧ q.1 ≤ 255) := by
      intro i hi
      obtain ⟨_, _, g0, g1⟩ := hall i (by omega)
      have g0' : DataW.trod enc Tryd.prog w base (fun _ => true) held n' 5 [V0 i] = some (D0 i, P0 i) := g0
      have g1' : DataW.trod enc Tryd.prog w base (fun _ => true) held n' 47 [V1 i] = some (D1 i, P1 i) := g1
      obtain ⟨z, e0, _, wz⟩ := DataW.trod_int Tryd.underlying5 g0'
      obtain ⟨A, c, zs, eb, hl2, hC, hu, hdz⟩ := open_ints' Tryd.underlying47 Tryd.underlying3 (by kernel_rfl) g1'
      refine ⟨(z, A, c, zs), by simpa using e0, eb, hl2, hC, hu, ?_, ?_⟩
      · rcases hdz with h0 | ⟨el, sp, hel, hdz⟩
        · show zs.length ≤ _
          omega
        · have hdz : D1 i = .slice el sp := hdz
          have h1 := bulk_slice el sp
          have h2 : Rows.uptoBulk (D1 i) ≤ Rows.uptoBulk (DataW.agg [D0 i, D1 i]) := by
            simp only [Rows.uptoBulk, Rows.uptoBulkAll]
            omega
          have h3 := bulk_mem ((List.range len).map fun i => DataW.agg [D0 i, D1 i]) _ (List.mem_map.2 ⟨i, List.mem_range.2 hi, rfl⟩)
          have h4 : Rows.uptoBulkAll ((List.range len).map fun i => DataW.agg [D0 i, D1 i]) ≤ Rows.uptoBulk x.1 := by
            rw [hd2]
            simp only [Rows.uptoBulk]
            omega
          rw [hdz] at h2 h3
          show zs.length ≤ _
          simp only [hdz] at *
          omega
      · show 0 ≤ z ∧ z ≤ 255
        simp [Lit.wf, IntKind.min, IntKind.max, IntKind.bits, IntKind.signed] at wz
        omega
    obtain ⟨q, hq⟩ := choose_lt each
    have hll : ((List.range len).map fun i => (⟨(q i).1, (q i).2.2.2⟩ : S49)).length = len := by simp
    have hget : ∀ i, i < len → ((List.range len).map fun i => (⟨(q i).1, (q i).2.2.2⟩ : S49))[i]? = some ⟨(q i).1, (q i).2.2.2⟩ := fun i hi => by
      rw [List.getElem?_map, List.getElem?_range hi]
      rfl
    have hin : ∀ y ∈ ((List.range len).map fun i => (⟨(q i).1, (q i).2.2.2⟩ : S49)), ∃ i, i < len ∧ y = ⟨(q i).1, (q i).2.2.2⟩ := fun y hy => by
      obtain ⟨i, hi, rfl⟩ := List.mem_map.1 hy
      exact ⟨i, List.mem_range.1 hi, rfl⟩
    have hlen : len ≤ 1048576 := by
      have h1 := bulk_slice ((List.range len).map fun i => DataW.agg [D0 i, D1 i]) ((List.range (m - len)).map fun j => .agg [D0 (len + j), D1 (len + j)])
      rw [← hd2] at h1
      simp at h1
      omega
    refine ⟨some ad, cap, (List.range len).map fun i => ⟨(q i).1, (q i).2.2.2⟩, by rw [hll], by rw [hll]; exact hl, ⟨rfl, by rw [hll]; simp [maxLen] at hm; omega, fun _ => ⟨ad, rfl, fun j p hj => ?_⟩⟩, fun y hy => ?_, by rw [hll]; exact hlen, fun j => ?_, fun y hy => ?_⟩
    · have hj' : j < len := by
        have := (List.getElem?_eq_some_iff.1 hj).1
        omega
      rw [hget j hj'] at hj
      obtain rfl := Option.some.inj hj
      obtain ⟨q1, q2, q3, q4, q5, q6, q7⟩ := hq j hj'
      obtain ⟨k0, k1, _, _⟩ := hall j (by omega)
      rw [q1] at k0
      rw [q2] at k1
      exact ⟨_, rfl, k49_mk w ⟨(q j).1, (q j).2.2.2⟩ q3 q4, fun i u hu => by
        match i, hu with
        | 0, hu => obtain rfl := Option.some.inj hu; exact k0
        | 1, hu => obtain rfl := Option.some.inj hu; exact k1⟩
    · obtain ⟨i, hi, rfl⟩ := hin y hy
      exact (hq i hi).2.2.2.2.2.2
    · unfold nd
      rw [List.getD_eq_getElem?_getD]
      by_cases e : j < len
      · rw [hget j e]
        exact (hq j e).2.2.2.2.2.1
      · rw [List.getElem?_eq_none (by rw [hll]; omega)]
        simp [z49]
    · obtain ⟨i, hi, rfl⟩ := hin y hy
      exact (hq i hi).2.2.2.2.1
end
end Go.Proofs.YtbnonnogkgbpiaaDoor.OpenTree
end
