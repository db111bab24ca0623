/- TreePrints proved, the tied card of its second form: of every tree its text, and the error, are the document's; the tree that was handed in stays as it was. The library's table reads as its own text lays it (tied); what the arguments hold is bounded as the statement says. -/
import Derived.Test.YtbnonnogkgbpiaaDoorKPrints4
section
namespace Go.Proofs.YtbnonnogkgbpiaaDoor.PT
open Go.RowKit Go.Proofs.YtbnonnogkgbpiaaDoorW.PrintWords Go.Proofs.YtbnonnogkgbpiaaDoorW.PrintLast Go.Proofs.YtbnonnogkgbpiaaDoorW.PrintMore
attribute [local go_sem] max2_int min2_int max_two min_two max_three min_three max_four min_four   -- for this text's walks alone
set_option linter.unusedVariables false
set_option linter.unusedSimpArgs false
mutual
def vivariumref11_Alike.j0 : Nat → Bool → Int → Int → List (S49) → Int → Int → Int → List (S49) → Int → Option (Bool)
  | 0, _, _, _, _, _, _, _, _, _ => none
  | k + 1, x33, x128000, x128001, x128002, x128003, x129000, x129001, x129002, x129003 => if x33 = true then (some false) else (vivariumref11_Alike.l0 k 0 x128000 x128001 x128002 x128003 x129000 x129001 x129002 x129003)
def vivariumref11_Alike.l0 : Nat → Int → Int → Int → List (S49) → Int → Int → Int → List (S49) → Int → Option (Bool)
  | 0, _, _, _, _, _, _, _, _, _ => none
  | k + 1, x5, x128000, x128001, x128002, x128003, x129000, x129001, x129002, x129003 => if x5 < (x128002.length : Int) then (if 0 ≤ x5 then (if x5 < (x129002.length : Int) then (if ((rd_T49 x128002 x5).f0) = ((rd_T49 x129002 x5).f0) then ((vivariumref11_ints.f k ((rd_T49 x128002 x5).f1) ((rd_T49 x129002 x5).f1)).bind fun t133 => (if t133 = true then (vivariumref11_Alike.l0 k (wrap64 (x5 + 1)) x128000 x128001 x128002 x128003 x129000 x129001 x129002 x129003) else (some false))) else (some false)) else (none)) else (none)) else (some true)
end
def vivariumref11_Alike.f (k : Nat) (a0_0 : Int) (a0_1 : Int) (l0_2 : List (S49)) (a0_3 : Int) (a1_0 : Int) (a1_1 : Int) (l1_2 : List (S49)) (a1_3 : Int) : Option (Bool) := if a0_0 = a1_0 then (if a0_1 = a1_1 then (if a0_3 = a1_3 then (vivariumref11_Alike.j0 k ((l0_2.length : Int) != (l1_2.length : Int)) a0_0 a0_1 l0_2 a0_3 a1_0 a1_1 l1_2 a1_3) else (vivariumref11_Alike.j0 k true a0_0 a0_1 l0_2 a0_3 a1_0 a1_1 l1_2 a1_3)) else (vivariumref11_Alike.j0 k true a0_0 a0_1 l0_2 a0_3 a1_0 a1_1 l1_2 a1_3)) else (vivariumref11_Alike.j0 k true a0_0 a0_1 l0_2 a0_3 a1_0 a1_1 l1_2 a1_3)
theorem vivariumref11_Alike.mono_l : ∀ k, (∀ y0 y1 y2 y3 y4 y5 y6 y7 y8, LeO (vivariumref11_Alike.j0 k y0 y1 y2 y3 y4 y5 y6 y7 y8) (vivariumref11_Alike.j0 (k + 1) y0 y1 y2 y3 y4 y5 y6 y7 y8)) ∧ (∀ y0 y1 y2 y3 y4 y5 y6 y7 y8, LeO (vivariumref11_Alike.l0 k y0 y1 y2 y3 y4 y5 y6 y7 y8) (vivariumref11_Alike.l0 (k + 1) y0 y1 y2 y3 y4 y5 y6 y7 y8))
  | 0 => ⟨fun _ _ _ _ _ _ _ _ _ r h => by simp [vivariumref11_Alike.j0] at h, fun _ _ _ _ _ _ _ _ _ r h => by simp [vivariumref11_Alike.l0] at h⟩
  | k + 1 => by
    obtain ⟨ih0, ih1⟩ := vivariumref11_Alike.mono_l k
    refine ⟨?_, ?_⟩
    · intro y0 y1 y2 y3 y4 y5 y6 y7 y8
      unfold vivariumref11_Alike.j0
      repeat' first
      | (with_reducible exact ih0 _ _ _ _ _ _ _ _ _)
      | (with_reducible exact ih1 _ _ _ _ _ _ _ _ _)
      | (with_reducible exact vivariumref11_ints.mono _ _ _)
      | (with_reducible exact LeO.refl _)
      | (with_reducible exact LeO.none _)
      | (with_reducible refine LeO.ite ?_ ?_)
      | (with_reducible refine LeO.bind ?_ (fun _ => ?_))
      | exact ih0 _ _ _ _ _ _ _ _ _
      | exact ih1 _ _ _ _ _ _ _ _ _
      | exact vivariumref11_ints.mono _ _ _
      | exact LeO.none _
      | refine LeO.ite ?_ ?_
      | refine LeO.bind ?_ (fun _ => ?_)
    · intro y0 y1 y2 y3 y4 y5 y6 y7 y8
      unfold vivariumref11_Alike.l0
      repeat' first
      | (with_reducible exact ih0 _ _ _ _ _ _ _ _ _)
      | (with_reducible exact ih1 _ _ _ _ _ _ _ _ _)
      | (with_reducible exact vivariumref11_ints.mono _ _ _)
      | (with_reducible exact LeO.refl _)
      | (with_reducible exact LeO.none _)
      | (with_reducible refine LeO.ite ?_ ?_)
      | (with_reducible refine LeO.bind ?_ (fun _ => ?_))
      | exact ih0 _ _ _ _ _ _ _ _ _
      | exact ih1 _ _ _ _ _ _ _ _ _
      | exact vivariumref11_ints.mono _ _ _
      | exact LeO.none _
      | refine LeO.ite ?_ ?_
      | refine LeO.bind ?_ (fun _ => ?_)
set_option maxHeartbeats 8000000 in
set_option maxRecDepth 100000 in
theorem vivariumref11_Alike.calls (k : Nat) (a0_0 : Int) (a0_1 : Int) (A0_2 : Option Addr) (c0_2 : Nat) (l0_2 : List (S49)) (a0_3 : Int) (a1_0 : Int) (a1_1 : Int) (A1_2 : Option Addr) (c1_2 : Nat) (l1_2 : List (S49)) (a1_3 : Int) (r : Bool) (w : World) (hr0_2 : Kd.C k49 w A0_2 l0_2.length l0_2) (hc0_2 : l0_2.length ≤ c0_2) (hr1_2 : Kd.C k49 w A1_2 l1_2.length l1_2) (hc1_2 : l1_2.length ≤ c1_2) (h : vivariumref11_Alike.f k a0_0 a0_1 l0_2 a0_3 a1_0 a1_1 l1_2 a1_3 = some r) :
    Calls Tryd.prog 28 #[.agg #[.int .i64 a0_0, .int .i64 a0_1, .slice A0_2 l0_2.length c0_2, .int .i64 a0_3], .agg #[.int .i64 a1_0, .int .i64 a1_1, .slice A1_2 l1_2.length c1_2, .int .i64 a1_3]] w fun e w' => e = .returned (.bool r) ∧ Below w.heap.size w w' := by
  have hu24 := Tryd.underlying24
  have HR0_2 := Aside0.mk hr0_2
  have HC0_2 := Aside0.mk hc0_2
  clear hr0_2 hc0_2
  have HR1_2 := Aside0.mk hr1_2
  have HC1_2 := Aside0.mk hc1_2
  clear hr1_2 hc1_2
  have HB := Aside0.mk (Below.refl w.heap.size w)
  have H : (if a0_0 = a1_0 then (if a0_1 = a1_1 then (if a0_3 = a1_3 then (vivariumref11_Alike.j0 k ((l0_2.length : Int) != (l1_2.length : Int)) a0_0 a0_1 l0_2 a0_3 a1_0 a1_1 l1_2 a1_3) else (vivariumref11_Alike.j0 k true a0_0 a0_1 l0_2 a0_3 a1_0 a1_1 l1_2 a1_3)) else (vivariumref11_Alike.j0 k true a0_0 a0_1 l0_2 a0_3 a1_0 a1_1 l1_2 a1_3)) else (vivariumref11_Alike.j0 k true a0_0 a0_1 l0_2 a0_3 a1_0 a1_1 l1_2 a1_3)) = some r := h
  clear h
  have HC3 := Aside0.mk H
  clear H
  go_enter Tryd.func28, Tryd.ntmps28
  go_upto_region 1 with (first | ((with_reducible refine gate_dst (N := 2) rfl ?_); (try (refine gate_guard (by rfl) ?_; dsimp only)); refine box_event ?hg (N := 2) ?hd (cs := #[.int .i64 a0_0, .int .i64 a0_1, .slice A0_2 l0_2.length c0_2, .int .i64 a0_3]) (t := 24) ?hr ?_; (case hd => rfl); (case hg => rfl); (case hr => first | (go_simp; done) | (go_simp; rfl)); intro gb127 hg w4 hbox hb; have n0_ := Aside0.mk (below_step (by repeat (first | (with_reducible first | exact HB.out | apply below_alloc | apply pw_below_drewN | apply below_drew1) | exact HB.out)) hb); have n1_ := Aside0.mk (hbox); have n2_ := Aside0.mk ((by rw [hg]; exact (below_size (by repeat (first | (with_reducible first | exact HB.out | apply below_alloc | apply pw_below_drewN | apply below_drew1) | exact HB.out))) : w.heap.size ≤ gb127)); have n3_ := Aside0.mk ((by rw [hg]; exact (below_size (by repeat (first | (with_reducible first | exact HB.out | apply below_alloc | apply pw_below_drewN | apply below_drew1) | exact HB.out))) : w.heap.size ≤ gb127)); clear HB; have HB := n0_; have BK127 := n1_; have GW127 := n2_; have GE127 := n3_; clear n0_ n1_ n2_ n3_; clear hb hbox hg) | ((with_reducible refine gate_dst (N := 3) rfl ?_); (try (refine gate_guard (by rfl) ?_; dsimp only)); refine box_event ?hg (N := 3) ?hd (cs := #[.int .i64 a1_0, .int .i64 a1_1, .slice A1_2 l1_2.length c1_2, .int .i64 a1_3]) (t := 24) ?hr ?_; (case hd => rfl); (case hg => rfl); (case hr => first | (go_simp; done) | (go_simp; rfl)); intro gb128 hg w5 hbox hb; have n0_ := Aside0.mk (blk_below (g := gb127) (o := .cells #[.int .i64 a0_0, .int .i64 a0_1, .slice A0_2 l0_2.length c0_2, .int .i64 a0_3] 24 (0, 0)) (by (with_reducible repeat (first | refine blk_drewN ?_ _ | refine blk_drew ?_ | refine blk_alloc ?_ _)); exact BK127.out) hb); have n1_ := Aside0.mk (below_step (by repeat (first | (with_reducible first | exact HB.out | apply below_alloc | apply pw_below_drewN | apply below_drew1 | refine below_set ?_ GE127.out) | exact HB.out)) hb); have n2_ := Aside0.mk (hbox); have n3_ := Aside0.mk ((by rw [hg]; exact (below_size (by repeat (first | (with_reducible first | exact HB.out | apply below_alloc | apply pw_below_drewN | apply below_drew1 | refine below_set ?_ GE127.out) | exact HB.out))) : w.heap.size ≤ gb128)); have n4_ := Aside0.mk ((by rw [hg]; exact (below_size (by repeat (first | (with_reducible first | exact HB.out | apply below_alloc | apply pw_below_drewN | apply below_drew1 | refine below_set ?_ GE127.out) | exact HB.out))) : w.heap.size ≤ gb128)); have n5_ := Aside0.mk ((by rw [hg]; exact Nat.ne_of_lt (blk_lt (g := gb127) (o := .cells #[.int .i64 a0_0, .int .i64 a0_1, .slice A0_2 l0_2.length c0_2, .int .i64 a0_3] 24 (0, 0)) (by (with_reducible repeat (first | refine blk_drewN ?_ _ | refine blk_drew ?_ | refine blk_alloc ?_ _)); exact BK127.out)) : gb127 ≠ gb128)); have n6_ := Aside0.mk ((by rw [hg]; exact Nat.ne_of_gt (blk_lt (g := gb127) (o := .cells #[.int .i64 a0_0, .int .i64 a0_1, .slice A0_2 l0_2.length c0_2, .int .i64 a0_3] 24 (0, 0)) (by (with_reducible repeat (first | refine blk_drewN ?_ _ | refine blk_drew ?_ | refine blk_alloc ?_ _)); exact BK127.out)) : gb128 ≠ gb127)); clear BK127; clear HB; have BK127 := n0_; have HB := n1_; have BK128 := n2_; have GW128 := n3_; have GE128 := n4_; have NB127_128 := n5_; have NB128_127 := n6_; clear n0_ n1_ n2_ n3_ n4_ n5_ n6_; clear hb hbox hg))
  repeat (go_quiet (first | ((with_reducible refine gate_dst (N := 2) rfl ?_); (try (refine gate_guard (by rfl) ?_; dsimp only)); refine box_event ?hg (N := 2) ?hd (cs := #[.int .i64 a0_0, .int .i64 a0_1, .slice A0_2 l0_2.length c0_2, .int .i64 a0_3]) (t := 24) ?hr ?_; (case hd => rfl); (case hg => rfl); (case hr => first | (go_simp; done) | (go_simp; rfl)); intro gb127 hg w4 hbox hb; have n0_ := Aside0.mk (below_step (by repeat (first | (with_reducible first | exact HB.out | apply below_alloc | apply pw_below_drewN | apply below_drew1) | exact HB.out)) hb); have n1_ := Aside0.mk (hbox); have n2_ := Aside0.mk ((by rw [hg]; exact (below_size (by repeat (first | (with_reducible first | exact HB.out | apply below_alloc | apply pw_below_drewN | apply below_drew1) | exact HB.out))) : w.heap.size ≤ gb127)); have n3_ := Aside0.mk ((by rw [hg]; exact (below_size (by repeat (first | (with_reducible first | exact HB.out | apply below_alloc | apply pw_below_drewN | apply below_drew1) | exact HB.out))) : w.heap.size ≤ gb127)); clear HB; have HB := n0_; have BK127 := n1_; have GW127 := n2_; have GE127 := n3_; clear n0_ n1_ n2_ n3_; clear hb hbox hg) | ((with_reducible refine gate_dst (N := 3) rfl ?_); (try (refine gate_guard (by rfl) ?_; dsimp only)); refine box_event ?hg (N := 3) ?hd (cs := #[.int .i64 a1_0, .int .i64 a1_1, .slice A1_2 l1_2.length c1_2, .int .i64 a1_3]) (t := 24) ?hr ?_; (case hd => rfl); (case hg => rfl); (case hr => first | (go_simp; done) | (go_simp; rfl)); intro gb128 hg w5 hbox hb; have n0_ := Aside0.mk (blk_below (g := gb127) (o := .cells #[.int .i64 a0_0, .int .i64 a0_1, .slice A0_2 l0_2.length c0_2, .int .i64 a0_3] 24 (0, 0)) (by (with_reducible repeat (first | refine blk_drewN ?_ _ | refine blk_drew ?_ | refine blk_alloc ?_ _)); exact BK127.out) hb); have n1_ := Aside0.mk (below_step (by repeat (first | (with_reducible first | exact HB.out | apply below_alloc | apply pw_below_drewN | apply below_drew1 | refine below_set ?_ GE127.out) | exact HB.out)) hb); have n2_ := Aside0.mk (hbox); have n3_ := Aside0.mk ((by rw [hg]; exact (below_size (by repeat (first | (with_reducible first | exact HB.out | apply below_alloc | apply pw_below_drewN | apply below_drew1 | refine below_set ?_ GE127.out) | exact HB.out))) : w.heap.size ≤ gb128)); have n4_ := Aside0.mk ((by rw [hg]; exact (below_size (by repeat (first | (with_reducible first | exact HB.out | apply below_alloc | apply pw_below_drewN | apply below_drew1 | refine below_set ?_ GE127.out) | exact HB.out))) : w.heap.size ≤ gb128)); have n5_ := Aside0.mk ((by rw [hg]; exact Nat.ne_of_lt (blk_lt (g := gb127) (o := .cells #[.int .i64 a0_0, .int .i64 a0_1, .slice A0_2 l0_2.length c0_2, .int .i64 a0_3] 24 (0, 0)) (by (with_reducible repeat (first | refine blk_drewN ?_ _ | refine blk_drew ?_ | refine blk_alloc ?_ _)); exact BK127.out)) : gb127 ≠ gb128)); have n6_ := Aside0.mk ((by rw [hg]; exact Nat.ne_of_gt (blk_lt (g := gb127) (o := .cells #[.int .i64 a0_0, .int .i64 a0_1, .slice A0_2 l0_2.length c0_2, .int .i64 a0_3] 24 (0, 0)) (by (with_reducible repeat (first | refine blk_drewN ?_ _ | refine blk_drew ?_ | refine blk_alloc ?_ _)); exact BK127.out)) : gb128 ≠ gb127)); clear BK127; clear HB; have BK127 := n0_; have HB := n1_; have BK128 := n2_; have GW128 := n3_; have GE128 := n4_; have NB127_128 := n5_; have NB128_127 := n6_; clear n0_ n1_ n2_ n3_ n4_ n5_ n6_; clear hb hbox hg)); go_upto_region 1 with (first | ((with_reducible refine gate_dst (N := 2) rfl ?_); (try (refine gate_guard (by rfl) ?_; dsimp only)); refine box_event ?hg (N := 2) ?hd (cs := #[.int .i64 a0_0, .int .i64 a0_1, .slice A0_2 l0_2.length c0_2, .int .i64 a0_3]) (t := 24) ?hr ?_; (case hd => rfl); (case hg => rfl); (case hr => first | (go_simp; done) | (go_simp; rfl)); intro gb127 hg w4 hbox hb; have n0_ := Aside0.mk (below_step (by repeat (first | (with_reducible first | exact HB.out | apply below_alloc | apply pw_below_drewN | apply below_drew1) | exact HB.out)) hb); have n1_ := Aside0.mk (hbox); have n2_ := Aside0.mk ((by rw [hg]; exact (below_size (by repeat (first | (with_reducible first | exact HB.out | apply below_alloc | apply pw_below_drewN | apply below_drew1) | exact HB.out))) : w.heap.size ≤ gb127)); have n3_ := Aside0.mk ((by rw [hg]; exact (below_size (by repeat (first | (with_reducible first | exact HB.out | apply below_alloc | apply pw_below_drewN | apply below_drew1) | exact HB.out))) : w.heap.size ≤ gb127)); clear HB; have HB := n0_; have BK127 := n1_; have GW127 := n2_; have GE127 := n3_; clear n0_ n1_ n2_ n3_; clear hb hbox hg) | ((with_reducible refine gate_dst (N := 3) rfl ?_); (try (refine gate_guard (by rfl) ?_; dsimp only)); refine box_event ?hg (N := 3) ?hd (cs := #[.int .i64 a1_0, .int .i64 a1_1, .slice A1_2 l1_2.length c1_2, .int .i64 a1_3]) (t := 24) ?hr ?_; (case hd => rfl); (case hg => rfl); (case hr => first | (go_simp; done) | (go_simp; rfl)); intro gb128 hg w5 hbox hb; have n0_ := Aside0.mk (blk_below (g := gb127) (o := .cells #[.int .i64 a0_0, .int .i64 a0_1, .slice A0_2 l0_2.length c0_2, .int .i64 a0_3] 24 (0, 0)) (by (with_reducible repeat (first | refine blk_drewN ?_ _ | refine blk_drew ?_ | refine blk_alloc ?_ _)); exact BK127.out) hb); have n1_ := Aside0.mk (below_step (by repeat (first | (with_reducible first | exact HB.out | apply below_alloc | apply pw_below_drewN | apply below_drew1 | refine below_set ?_ GE127.out) | exact HB.out)) hb); have n2_ := Aside0.mk (hbox); have n3_ := Aside0.mk ((by rw [hg]; exact (below_size (by repeat (first | (with_reducible first | exact HB.out | apply below_alloc | apply pw_below_drewN | apply below_drew1 | refine below_set ?_ GE127.out) | exact HB.out))) : w.heap.size ≤ gb128)); have n4_ := Aside0.mk ((by rw [hg]; exact (below_size (by repeat (first | (with_reducible first | exact HB.out | apply below_alloc | apply pw_below_drewN | apply below_drew1 | refine below_set ?_ GE127.out) | exact HB.out))) : w.heap.size ≤ gb128)); have n5_ := Aside0.mk ((by rw [hg]; exact Nat.ne_of_lt (blk_lt (g := gb127) (o := .cells #[.int .i64 a0_0, .int .i64 a0_1, .slice A0_2 l0_2.length c0_2, .int .i64 a0_3] 24 (0, 0)) (by (with_reducible repeat (first | refine blk_drewN ?_ _ | refine blk_drew ?_ | refine blk_alloc ?_ _)); exact BK127.out)) : gb127 ≠ gb128)); have n6_ := Aside0.mk ((by rw [hg]; exact Nat.ne_of_gt (blk_lt (g := gb127) (o := .cells #[.int .i64 a0_0, .int .i64 a0_1, .slice A0_2 l0_2.length c0_2, .int .i64 a0_3] 24 (0, 0)) (by (with_reducible repeat (first | refine blk_drewN ?_ _ | refine blk_drew ?_ | refine blk_alloc ?_ _)); exact BK127.out)) : gb128 ≠ gb127)); clear BK127; clear HB; have BK127 := n0_; have HB := n1_; have BK128 := n2_; have GW128 := n3_; have GE128 := n4_; have NB127_128 := n5_; have NB128_127 := n6_; clear n0_ n1_ n2_ n3_ n4_ n5_ n6_; clear hb hbox hg)))
  (try simp only [Act.put, List.setIfInBounds_toArray, List.set_cons_zero, List.set_cons_succ])
  go_cut [33] (fun v33 wc => ∃ (kq : Nat) (x33_2 : Bool), v33 = .bool x33_2 ∧ Aside0 (vivariumref11_Alike.j0 kq x33_2 a0_0 a0_1 l0_2 a0_3 a1_0 a1_1 l1_2 a1_3 = some r) ∧ Aside0 (kq ≤ k) ∧ Aside0 (wc.heap[gb127]? = some (.cells #[.int .i64 a0_0, .int .i64 a0_1, (.slice A0_2 l0_2.length c0_2), .int .i64 a0_3] 24 (0, 0))) ∧ Aside0 (wc.heap[gb128]? = some (.cells #[.int .i64 a1_0, .int .i64 a1_1, (.slice A1_2 l1_2.length c1_2), .int .i64 a1_3] 24 (0, 0))) ∧ Aside0 (Below w.heap.size w wc))
  case first =>
    have H := HC3.out
    clear HC3
    by_cases c6 : a0_0 = a1_0
    · rw [if_pos c6] at H
      have c6b0 : (a0_0 == a1_0) = true := beq_iff_eq.mpr c6
      have c6b1 : (a0_0 != a1_0) = false := bne_eq_false_iff_eq.mpr c6
      clear c6
      (first | rw [c6b0] | (simp only [i64_w, i32_w]; rw [c6b0]) | skip)
      by_cases c7 : a0_1 = a1_1
      · rw [if_pos c7] at H
        have c7b0 : (a0_1 == a1_1) = true := beq_iff_eq.mpr c7
        have c7b1 : (a0_1 != a1_1) = false := bne_eq_false_iff_eq.mpr c7
        clear c7
        by_cases c8 : a0_3 = a1_3
        · rw [if_pos c8] at H
          have c8b0 : (a0_3 == a1_3) = true := beq_iff_eq.mpr c8
          have c8b1 : (a0_3 != a1_3) = false := bne_eq_false_iff_eq.mpr c8
          clear c8
          have H' := Aside0.mk H
          clear H
          have hnb9 := NB127_128.out
          have hnc9 := NB128_127.out
          have hcz10_0 : w5.cell? ⟨gb127, 0, none⟩ = some (.int .i64 a0_0) := (blk_cell BK127.out 0).trans rfl
          have hcz10_1 : w5.cell? ⟨gb127, 1, none⟩ = some (.int .i64 a0_1) := (blk_cell BK127.out 1).trans rfl
          have hcz10_2 : w5.cell? ⟨gb127, 2, none⟩ = some (.slice A0_2 l0_2.length c0_2) := (blk_cell BK127.out 2).trans rfl
          have hcz10_3 : w5.cell? ⟨gb127, 3, none⟩ = some (.int .i64 a0_3) := (blk_cell BK127.out 3).trans rfl
          have hfz10_0 := blk_frozen BK127.out 0
          have hfz10_1 := blk_frozen BK127.out 1
          have hfz10_2 := blk_frozen BK127.out 2
          have hfz10_3 := blk_frozen BK127.out 3
          have hcz11_0 : w5.cell? ⟨gb128, 0, none⟩ = some (.int .i64 a1_0) := (blk_cell BK128.out 0).trans rfl
          have hcz11_1 : w5.cell? ⟨gb128, 1, none⟩ = some (.int .i64 a1_1) := (blk_cell BK128.out 1).trans rfl
          have hcz11_2 : w5.cell? ⟨gb128, 2, none⟩ = some (.slice A1_2 l1_2.length c1_2) := (blk_cell BK128.out 2).trans rfl
          have hcz11_3 : w5.cell? ⟨gb128, 3, none⟩ = some (.int .i64 a1_3) := (blk_cell BK128.out 3).trans rfl
          have hfz11_0 := blk_frozen BK128.out 0
          have hfz11_1 := blk_frozen BK128.out 1
          have hfz11_2 := blk_frozen BK128.out 2
          have hfz11_3 := blk_frozen BK128.out 3
          go_wp2
          repeat (go_quiet (fail); try go_wp2)
          go_meet
          case rel => exact ⟨_, (((l0_2.length : Int) != (l1_2.length : Int))), (by first | rfl | (simp; done) | (simp [*]; done) | (simp [wrap64]; done)), H', ⟨by first | omega | exact Nat.le_refl _⟩, ⟨by (with_reducible repeat (first | refine blk_drewN ?_ _ | refine blk_drew ?_ | refine blk_alloc ?_ _)); exact BK127.out⟩, ⟨by (with_reducible repeat (first | refine blk_drewN ?_ _ | refine blk_drew ?_ | refine blk_alloc ?_ _)); exact BK128.out⟩, ⟨by repeat (first | (with_reducible first | exact HB.out | apply below_alloc | apply pw_below_drewN | apply below_drew1 | refine below_set ?_ GE127.out | refine below_set ?_ GE128.out) | exact HB.out)⟩⟩
        · rw [if_neg c8] at H
          have c8b0 : (a0_3 == a1_3) = false := beq_eq_false_iff_ne.mpr c8
          have c8b1 : (a0_3 != a1_3) = true := bne_iff_ne.mpr c8
          have H' := Aside0.mk H
          clear H
          have hnb12 := NB127_128.out
          have hnc12 := NB128_127.out
          have hcz13_0 : w5.cell? ⟨gb127, 0, none⟩ = some (.int .i64 a0_0) := (blk_cell BK127.out 0).trans rfl
          have hcz13_1 : w5.cell? ⟨gb127, 1, none⟩ = some (.int .i64 a0_1) := (blk_cell BK127.out 1).trans rfl
          have hcz13_2 : w5.cell? ⟨gb127, 2, none⟩ = some (.slice A0_2 l0_2.length c0_2) := (blk_cell BK127.out 2).trans rfl
          have hcz13_3 : w5.cell? ⟨gb127, 3, none⟩ = some (.int .i64 a0_3) := (blk_cell BK127.out 3).trans rfl
          have hfz13_0 := blk_frozen BK127.out 0
          have hfz13_1 := blk_frozen BK127.out 1
          have hfz13_2 := blk_frozen BK127.out 2
          have hfz13_3 := blk_frozen BK127.out 3
          have hcz14_0 : w5.cell? ⟨gb128, 0, none⟩ = some (.int .i64 a1_0) := (blk_cell BK128.out 0).trans rfl
          have hcz14_1 : w5.cell? ⟨gb128, 1, none⟩ = some (.int .i64 a1_1) := (blk_cell BK128.out 1).trans rfl
          have hcz14_2 : w5.cell? ⟨gb128, 2, none⟩ = some (.slice A1_2 l1_2.length c1_2) := (blk_cell BK128.out 2).trans rfl
          have hcz14_3 : w5.cell? ⟨gb128, 3, none⟩ = some (.int .i64 a1_3) := (blk_cell BK128.out 3).trans rfl
          have hfz14_0 := blk_frozen BK128.out 0
          have hfz14_1 := blk_frozen BK128.out 1
          have hfz14_2 := blk_frozen BK128.out 2
          have hfz14_3 := blk_frozen BK128.out 3
          go_wp2
          repeat (go_quiet (fail); try go_wp2)
          go_meet
          case rel => exact ⟨_, (true), (by first | rfl | (simp; done) | (simp [*]; done) | (simp [wrap64]; done)), H', ⟨by first | omega | exact Nat.le_refl _⟩, ⟨by (with_reducible repeat (first | refine blk_drewN ?_ _ | refine blk_drew ?_ | refine blk_alloc ?_ _)); exact BK127.out⟩, ⟨by (with_reducible repeat (first | refine blk_drewN ?_ _ | refine blk_drew ?_ | refine blk_alloc ?_ _)); exact BK128.out⟩, ⟨by repeat (first | (with_reducible first | exact HB.out | apply below_alloc | apply pw_below_drewN | apply below_drew1 | refine below_set ?_ GE127.out | refine below_set ?_ GE128.out) | exact HB.out)⟩⟩
      · rw [if_neg c7] at H
        have c7b0 : (a0_1 == a1_1) = false := beq_eq_false_iff_ne.mpr c7
        have c7b1 : (a0_1 != a1_1) = true := bne_iff_ne.mpr c7
        have H' := Aside0.mk H
        clear H
        have hnb15 := NB127_128.out
        have hnc15 := NB128_127.out
        have hcz16_0 : w5.cell? ⟨gb127, 0, none⟩ = some (.int .i64 a0_0) := (blk_cell BK127.out 0).trans rfl
        have hcz16_1 : w5.cell? ⟨gb127, 1, none⟩ = some (.int .i64 a0_1) := (blk_cell BK127.out 1).trans rfl
        have hcz16_2 : w5.cell? ⟨gb127, 2, none⟩ = some (.slice A0_2 l0_2.length c0_2) := (blk_cell BK127.out 2).trans rfl
        have hcz16_3 : w5.cell? ⟨gb127, 3, none⟩ = some (.int .i64 a0_3) := (blk_cell BK127.out 3).trans rfl
        have hfz16_0 := blk_frozen BK127.out 0
        have hfz16_1 := blk_frozen BK127.out 1
        have hfz16_2 := blk_frozen BK127.out 2
        have hfz16_3 := blk_frozen BK127.out 3
        have hcz17_0 : w5.cell? ⟨gb128, 0, none⟩ = some (.int .i64 a1_0) := (blk_cell BK128.out 0).trans rfl
        have hcz17_1 : w5.cell? ⟨gb128, 1, none⟩ = some (.int .i64 a1_1) := (blk_cell BK128.out 1).trans rfl
        have hcz17_2 : w5.cell? ⟨gb128, 2, none⟩ = some (.slice A1_2 l1_2.length c1_2) := (blk_cell BK128.out 2).trans rfl
        have hcz17_3 : w5.cell? ⟨gb128, 3, none⟩ = some (.int .i64 a1_3) := (blk_cell BK128.out 3).trans rfl
        have hfz17_0 := blk_frozen BK128.out 0
        have hfz17_1 := blk_frozen BK128.out 1
        have hfz17_2 := blk_frozen BK128.out 2
        have hfz17_3 := blk_frozen BK128.out 3
        go_wp2
        repeat (go_quiet (fail); try go_wp2)
        go_meet
        case rel => exact ⟨_, (true), (by first | rfl | (simp; done) | (simp [*]; done) | (simp [wrap64]; done)), H', ⟨by first | omega | exact Nat.le_refl _⟩, ⟨by (with_reducible repeat (first | refine blk_drewN ?_ _ | refine blk_drew ?_ | refine blk_alloc ?_ _)); exact BK127.out⟩, ⟨by (with_reducible repeat (first | refine blk_drewN ?_ _ | refine blk_drew ?_ | refine blk_alloc ?_ _)); exact BK128.out⟩, ⟨by repeat (first | (with_reducible first | exact HB.out | apply below_alloc | apply pw_below_drewN | apply below_drew1 | refine below_set ?_ GE127.out | refine below_set ?_ GE128.out) | exact HB.out)⟩⟩
    · rw [if_neg c6] at H
      have c6b0 : (a0_0 == a1_0) = false := beq_eq_false_iff_ne.mpr c6
      have c6b1 : (a0_0 != a1_0) = true := bne_iff_ne.mpr c6
      (first | rw [c6b0] | (simp only [i64_w, i32_w]; rw [c6b0]) | skip)
      have H' := Aside0.mk H
      clear H
      have hnb18 := NB127_128.out
      have hnc18 := NB128_127.out
      have hcz19_0 : w5.cell? ⟨gb127, 0, none⟩ = some (.int .i64 a0_0) := (blk_cell BK127.out 0).trans rfl
      have hcz19_1 : w5.cell? ⟨gb127, 1, none⟩ = some (.int .i64 a0_1) := (blk_cell BK127.out 1).trans rfl
      have hcz19_2 : w5.cell? ⟨gb127, 2, none⟩ = some (.slice A0_2 l0_2.length c0_2) := (blk_cell BK127.out 2).trans rfl
      have hcz19_3 : w5.cell? ⟨gb127, 3, none⟩ = some (.int .i64 a0_3) := (blk_cell BK127.out 3).trans rfl
      have hfz19_0 := blk_frozen BK127.out 0
      have hfz19_1 := blk_frozen BK127.out 1
      have hfz19_2 := blk_frozen BK127.out 2
      have hfz19_3 := blk_frozen BK127.out 3
      have hcz20_0 : w5.cell? ⟨gb128, 0, none⟩ = some (.int .i64 a1_0) := (blk_cell BK128.out 0).trans rfl
      have hcz20_1 : w5.cell? ⟨gb128, 1, none⟩ = some (.int .i64 a1_1) := (blk_cell BK128.out 1).trans rfl
      have hcz20_2 : w5.cell? ⟨gb128, 2, none⟩ = some (.slice A1_2 l1_2.length c1_2) := (blk_cell BK128.out 2).trans rfl
      have hcz20_3 : w5.cell? ⟨gb128, 3, none⟩ = some (.int .i64 a1_3) := (blk_cell BK128.out 3).trans rfl
      have hfz20_0 := blk_frozen BK128.out 0
      have hfz20_1 := blk_frozen BK128.out 1
      have hfz20_2 := blk_frozen BK128.out 2
      have hfz20_3 := blk_frozen BK128.out 3
      go_wp2
      repeat (go_quiet (fail); try go_wp2)
      go_meet
      case rel => exact ⟨_, (true), (by first | rfl | (simp; done) | (simp [*]; done) | (simp [wrap64]; done)), H', ⟨by first | omega | exact Nat.le_refl _⟩, ⟨by (with_reducible repeat (first | refine blk_drewN ?_ _ | refine blk_drew ?_ | refine blk_alloc ?_ _)); exact BK127.out⟩, ⟨by (with_reducible repeat (first | refine blk_drewN ?_ _ | refine blk_drew ?_ | refine blk_alloc ?_ _)); exact BK128.out⟩, ⟨by repeat (first | (with_reducible first | exact HB.out | apply below_alloc | apply pw_below_drewN | apply below_drew1 | refine below_set ?_ GE127.out | refine below_set ?_ GE128.out) | exact HB.out)⟩⟩
  case rest =>
    clear HC3
    try clear c1
    try clear c2
    try clear p2
    try clear c6
    try clear c6b0
    try clear c6b1
    try clear c7
    try clear c7b0
    try clear c7b1
    try clear c8
    try clear c8b0
    try clear c8b1
    try clear c9
    try clear c12
    try clear c15
    try clear c18
    try clear hcz10_0
    try clear hcz10_1
    try clear hcz10_2
    try clear hcz10_3
    try clear hcz11_0
    try clear hcz11_1
    try clear hcz11_2
    try clear hcz11_3
    try clear hcz13_0
    try clear hcz13_1
    try clear hcz13_2
    try clear hcz13_3
    try clear hcz14_0
    try clear hcz14_1
    try clear hcz14_2
    try clear hcz14_3
    try clear hcz16_0
    try clear hcz16_1
    try clear hcz16_2
    try clear hcz16_3
    try clear hcz17_0
    try clear hcz17_1
    try clear hcz17_2
    try clear hcz17_3
    try clear hcz19_0
    try clear hcz19_1
    try clear hcz19_2
    try clear hcz19_3
    try clear hcz20_0
    try clear hcz20_1
    try clear hcz20_2
    try clear hcz20_3
    try clear hfz10_0
    try clear hfz10_1
    try clear hfz10_2
    try clear hfz10_3
    try clear hfz11_0
    try clear hfz11_1
    try clear hfz11_2
    try clear hfz11_3
    try clear hfz13_0
    try clear hfz13_1
    try clear hfz13_2
    try clear hfz13_3
    try clear hfz14_0
    try clear hfz14_1
    try clear hfz14_2
    try clear hfz14_3
    try clear hfz16_0
    try clear hfz16_1
    try clear hfz16_2
    try clear hfz16_3
    try clear hfz17_0
    try clear hfz17_1
    try clear hfz17_2
    try clear hfz17_3
    try clear hfz19_0
    try clear hfz19_1
    try clear hfz19_2
    try clear hfz19_3
    try clear hfz20_0
    try clear hfz20_1
    try clear hfz20_2
    try clear hfz20_3
    obtain ⟨kq, x33_2, rfl, HA, HJ2, BK127, BK128, HB⟩ := hcut
    cases kq with
    | zero => exact absurd HA.out (by simp [vivariumref11_Alike.j0])
    | succ kj2 =>
      have H := HA.out
      clear HA
      simp only [vivariumref11_Alike.j0] at H
      by_cases c21 : x33_2 = true
      · subst c21
        have H1 : (some false) = some r := by rw [if_pos rfl] at H; exact H
        clear H
        have H := H1
        clear H1
        obtain rfl := Option.some.inj H
        go_wp2
        repeat (go_quiet (fail); try go_wp2)
        go_ret
        exact ⟨by first | rfl | (simp [errW_none, errW_some] <;> rfl) | (simp [*, errW_none, errW_some] <;> rfl), by repeat (first | (with_reducible first | exact HB.out | apply below_alloc | apply pw_below_drewN | apply below_drew1 | refine below_set ?_ GE127.out | refine below_set ?_ GE128.out) | exact HB.out)⟩
      · replace c21 := Bool.eq_false_iff.mpr c21
        subst c21
        have H1 : (vivariumref11_Alike.l0 kj2 0 a0_0 a0_1 l0_2 a0_3 a1_0 a1_1 l1_2 a1_3) = some r := by rw [if_neg (show ¬ (false = true) by decide)] at H; exact H
        clear H
        have H := H1
        clear H1
        have H' := Aside0.mk H
        clear H
        go_wp2
        repeat (go_quiet (fail); try go_wp2)
        go_loopg [5] kj2 (fun kq v5 w' => ∃ (x5_2 : Int), v5 = .int .i64 x5_2 ∧ Aside0 (vivariumref11_Alike.l0 kq x5_2 a0_0 a0_1 l0_2 a0_3 a1_0 a1_1 l1_2 a1_3 = some r) ∧ Aside0 (kq ≤ kj2) ∧ Aside0 (w'.heap[gb127]? = some (.cells #[.int .i64 a0_0, .int .i64 a0_1, (.slice A0_2 l0_2.length c0_2), .int .i64 a0_3] 24 (0, 0))) ∧ Aside0 (w'.heap[gb128]? = some (.cells #[.int .i64 a1_0, .int .i64 a1_1, (.slice A1_2 l1_2.length c1_2), .int .i64 a1_3] 24 (0, 0))) ∧ Aside0 (Below w.heap.size w w'))
        case atStart => exact ⟨(0), (by first | rfl | (simp; done) | (simp [*]; done) | (simp [wrap64]; done)), H', ⟨Nat.le_refl _⟩, ⟨by (with_reducible repeat (first | refine blk_drewN ?_ _ | refine blk_drew ?_ | refine blk_alloc ?_ _)); exact BK127.out⟩, ⟨by (with_reducible repeat (first | refine blk_drewN ?_ _ | refine blk_drew ?_ | refine blk_alloc ?_ _)); exact BK128.out⟩, ⟨by repeat (first | (with_reducible first | exact HB.out | apply below_alloc | apply pw_below_drewN | apply below_drew1 | refine below_set ?_ GE127.out | refine below_set ?_ GE128.out) | exact HB.out)⟩⟩
        case round =>
          clear H'
          try clear c1
          try clear c2
          try clear p2
          try clear c6
          try clear c6b0
          try clear c6b1
          try clear c7
          try clear c7b0
          try clear c7b1
          try clear c8
          try clear c8b0
          try clear c8b1
          try clear c9
          try clear c12
          try clear c15
          try clear c18
          try clear c21
          try clear hcz10_0
          try clear hcz10_1
          try clear hcz10_2
          try clear hcz10_3
          try clear hcz11_0
          try clear hcz11_1
          try clear hcz11_2
          try clear hcz11_3
          try clear hcz13_0
          try clear hcz13_1
          try clear hcz13_2
          try clear hcz13_3
          try clear hcz14_0
          try clear hcz14_1
          try clear hcz14_2
          try clear hcz14_3
          try clear hcz16_0
          try clear hcz16_1
          try clear hcz16_2
          try clear hcz16_3
          try clear hcz17_0
          try clear hcz17_1
          try clear hcz17_2
          try clear hcz17_3
          try clear hcz19_0
          try clear hcz19_1
          try clear hcz19_2
          try clear hcz19_3
          try clear hcz20_0
          try clear hcz20_1
          try clear hcz20_2
          try clear hcz20_3
          try clear hfz10_0
          try clear hfz10_1
          try clear hfz10_2
          try clear hfz10_3
          try clear hfz11_0
          try clear hfz11_1
          try clear hfz11_2
          try clear hfz11_3
          try clear hfz13_0
          try clear hfz13_1
          try clear hfz13_2
          try clear hfz13_3
          try clear hfz14_0
          try clear hfz14_1
          try clear hfz14_2
          try clear hfz14_3
          try clear hfz16_0
          try clear hfz16_1
          try clear hfz16_2
          try clear hfz16_3
          try clear hfz17_0
          try clear hfz17_1
          try clear hfz17_2
          try clear hfz17_3
          try clear hfz19_0
          try clear hfz19_1
          try clear hfz19_2
          try clear hfz19_3
          try clear hfz20_0
          try clear hfz20_1
          try clear hfz20_2
          try clear hfz20_3
          try clear p2
          obtain ⟨x5_2, rfl, HA, HK2, BK127, BK128, HB⟩ := hrel
          cases gk with
          | zero => exact absurd HA.out (by simp [vivariumref11_Alike.l0])
          | succ k2 =>
            have H := HA.out
            clear HA
            simp only [vivariumref11_Alike.l0] at H
            by_cases c22 : x5_2 < (l0_2.length : Int)
            · rw [if_pos c22] at H
              have c22b0 : decide (x5_2 < (l0_2.length : Int)) = true := decide_eq_true c22
              clear c22
              by_cases c23 : 0 ≤ x5_2
              · rw [if_pos c23] at H
                have c23b0 : decide (0 ≤ x5_2) = true := decide_eq_true c23
                clear c23
                by_cases c24 : x5_2 < (l1_2.length : Int)
                · rw [if_pos c24] at H
                  have c24b0 : decide (x5_2 < (l1_2.length : Int)) = true := decide_eq_true c24
                  clear c24
                  by_cases c25 : ((rd_T49 l0_2 x5_2).f0) = ((rd_T49 l1_2 x5_2).f0)
                  · rw [if_pos c25] at H
                    have c25b0 : (((rd_T49 l0_2 x5_2).f0) == ((rd_T49 l1_2 x5_2).f0)) = true := beq_iff_eq.mpr c25
                    have c25b1 : (((rd_T49 l0_2 x5_2).f0) != ((rd_T49 l1_2 x5_2).f0)) = false := bne_eq_false_iff_eq.mpr c25
                    clear c25
                    replace H := Option.bind_eq_some_iff.mp H
                    obtain ⟨t133, A260, H⟩ := H
                    replace H : (if t133 = true then (vivariumref11_Alike.l0 k2 (wrap64 (x5_2 + 1)) a0_0 a0_1 l0_2 a0_3 a1_0 a1_1 l1_2 a1_3) else (some false)) = some r := H
                    have A26 := Aside0.mk A260
                    clear A260
                    by_cases c27 : t133 = true
                    · subst c27
                      have H1 : (vivariumref11_Alike.l0 k2 (wrap64 (x5_2 + 1)) a0_0 a0_1 l0_2 a0_3 a1_0 a1_1 l1_2 a1_3) = some r := by rw [if_pos rfl] at H; exact H
                      clear H
                      have H := H1
                      clear H1
                      have H' := Aside0.mk H
                      clear H
                      have hnb28 := NB127_128.out
                      have hnc28 := NB128_127.out
                      have hcz29_0 : wr.cell? ⟨gb127, 0, none⟩ = some (.int .i64 a0_0) := (blk_cell BK127.out 0).trans rfl
                      have hcz29_1 : wr.cell? ⟨gb127, 1, none⟩ = some (.int .i64 a0_1) := (blk_cell BK127.out 1).trans rfl
                      have hcz29_2 : wr.cell? ⟨gb127, 2, none⟩ = some (.slice A0_2 l0_2.length c0_2) := (blk_cell BK127.out 2).trans rfl
                      have hcz29_3 : wr.cell? ⟨gb127, 3, none⟩ = some (.int .i64 a0_3) := (blk_cell BK127.out 3).trans rfl
                      have hfz29_0 := blk_frozen BK127.out 0
                      have hfz29_1 := blk_frozen BK127.out 1
                      have hfz29_2 := blk_frozen BK127.out 2
                      have hfz29_3 := blk_frozen BK127.out 3
                      have p129 : 0 ≤ (x5_2 : Int) := of_decide_eq_true (by first | (with_reducible assumption) | assumption)
                      have q129 : x5_2 < (l0_2.length : Int) := of_decide_eq_true (by first | (with_reducible assumption) | assumption)
                      obtain ⟨ad129, A129_1, c129_1, e129, hx129_0, hx129_1, hl129_1, hi129_1⟩ := at_T49 HR0_2.out x5_2 p129 q129
                      cases e129
                      replace hx129_0 := (HB.out.cell (World.block_lt_of_cell? w _ hx129_0)).trans hx129_0
                      replace hx129_1 := (HB.out.cell (World.block_lt_of_cell? w _ hx129_1)).trans hx129_1
                      have HR129_1 := Aside0.mk hi129_1
                      have HC129_1 := Aside0.mk hl129_1
                      clear hi129_1 hl129_1
                      replace p129 := eq_true p129
                      replace q129 := eq_true q129
                      have hcz30_0 : wr.cell? ⟨gb128, 0, none⟩ = some (.int .i64 a1_0) := (blk_cell BK128.out 0).trans rfl
                      have hcz30_1 : wr.cell? ⟨gb128, 1, none⟩ = some (.int .i64 a1_1) := (blk_cell BK128.out 1).trans rfl
                      have hcz30_2 : wr.cell? ⟨gb128, 2, none⟩ = some (.slice A1_2 l1_2.length c1_2) := (blk_cell BK128.out 2).trans rfl
                      have hcz30_3 : wr.cell? ⟨gb128, 3, none⟩ = some (.int .i64 a1_3) := (blk_cell BK128.out 3).trans rfl
                      have hfz30_0 := blk_frozen BK128.out 0
                      have hfz30_1 := blk_frozen BK128.out 1
                      have hfz30_2 := blk_frozen BK128.out 2
                      have hfz30_3 := blk_frozen BK128.out 3
                      have p130 : 0 ≤ (x5_2 : Int) := of_decide_eq_true (by first | (with_reducible assumption) | assumption)
                      have q130 : x5_2 < (l1_2.length : Int) := of_decide_eq_true (by first | (with_reducible assumption) | assumption)
                      obtain ⟨ad130, A130_1, c130_1, e130, hx130_0, hx130_1, hl130_1, hi130_1⟩ := at_T49 HR1_2.out x5_2 p130 q130
                      cases e130
                      replace hx130_0 := (HB.out.cell (World.block_lt_of_cell? w _ hx130_0)).trans hx130_0
                      replace hx130_1 := (HB.out.cell (World.block_lt_of_cell? w _ hx130_1)).trans hx130_1
                      have HR130_1 := Aside0.mk hi130_1
                      have HC130_1 := Aside0.mk hl130_1
                      clear hi130_1 hl130_1
                      replace p130 := eq_true p130
                      replace q130 := eq_true q130
                      have p131 : 0 ≤ (x5_2 : Int) := of_decide_eq_true (by first | (with_reducible assumption) | assumption)
                      have q131 : x5_2 < (l0_2.length : Int) := of_decide_eq_true (by first | (with_reducible assumption) | assumption)
                      obtain ⟨ad131, A131_1, c131_1, e131, hx131_0, hx131_1, hl131_1, hi131_1⟩ := at_T49 HR0_2.out x5_2 p131 q131
                      obtain rfl : ad129 = ad131 := (by injection e131)
                      replace hx131_0 := (HB.out.cell (World.block_lt_of_cell? w _ hx131_0)).trans hx131_0
                      replace hx131_1 := (HB.out.cell (World.block_lt_of_cell? w _ hx131_1)).trans hx131_1
                      have HR131_1 := Aside0.mk hi131_1
                      have HC131_1 := Aside0.mk hl131_1
                      clear hi131_1 hl131_1
                      replace p131 := eq_true p131
                      replace q131 := eq_true q131
                      have ea_ := Option.some.inj (hx129_1.symm.trans hx131_1)
                      injection ea_ with ea_ en_ ec_
                      subst ea_
                      subst ec_
                      clear en_
                      have p132 : 0 ≤ (x5_2 : Int) := of_decide_eq_true (by first | (with_reducible assumption) | assumption)
                      have q132 : x5_2 < (l1_2.length : Int) := of_decide_eq_true (by first | (with_reducible assumption) | assumption)
                      obtain ⟨ad132, A132_1, c132_1, e132, hx132_0, hx132_1, hl132_1, hi132_1⟩ := at_T49 HR1_2.out x5_2 p132 q132
                      obtain rfl : ad130 = ad132 := (by injection e132)
                      replace hx132_0 := (HB.out.cell (World.block_lt_of_cell? w _ hx132_0)).trans hx132_0
                      replace hx132_1 := (HB.out.cell (World.block_lt_of_cell? w _ hx132_1)).trans hx132_1
                      have HR132_1 := Aside0.mk hi132_1
                      have HC132_1 := Aside0.mk hl132_1
                      clear hi132_1 hl132_1
                      replace p132 := eq_true p132
                      replace q132 := eq_true q132
                      have ea_ := Option.some.inj (hx130_1.symm.trans hx132_1)
                      injection ea_ with ea_ en_ ec_
                      subst ea_
                      subst ec_
                      clear en_
                      go_wp2_with (first | (go_at_call 65; (with_reducible refine (vivariumref11_ints.calls k2 _ _ ((rd_T49 l0_2 x5_2).f1) _ _ ((rd_T49 l1_2 x5_2).f1) true _ ?side1 ?side2 ?side3 ?side4 A26.out).mono ?_); (case side1 => repeat (first | exact (Kd.C_below HR131_1.out HB.out) | (with_reducible refine Kd.C_alloc ?_ _) | (with_reducible refine Kd.C_drewN ?_ _) | (with_reducible refine Kd.C_drew ?_))); (case side2 => exact HC131_1.out); (case side3 => repeat (first | exact (Kd.C_below HR132_1.out HB.out) | (with_reducible refine Kd.C_alloc ?_ _) | (with_reducible refine Kd.C_drewN ?_ _) | (with_reducible refine Kd.C_drew ?_))); (case side4 => exact HC132_1.out); rintro e w' ⟨rfl, ⟨nd, rfl⟩⟩; (try first | exact ⟨rfl, _, World.drewN_drewN _ _ _⟩ | exact ⟨rfl, _, Eq.trans (World.drewN_drewN _ _ _) (congrArg (World.drewN _) (Nat.add_assoc _ _ _))⟩)))
                      repeat (go_quiet (first | (go_at_call 65; (with_reducible refine (vivariumref11_ints.calls k2 _ _ ((rd_T49 l0_2 x5_2).f1) _ _ ((rd_T49 l1_2 x5_2).f1) true _ ?side1 ?side2 ?side3 ?side4 A26.out).mono ?_); (case side1 => repeat (first | exact (Kd.C_below HR131_1.out HB.out) | (with_reducible refine Kd.C_alloc ?_ _) | (with_reducible refine Kd.C_drewN ?_ _) | (with_reducible refine Kd.C_drew ?_))); (case side2 => exact HC131_1.out); (case side3 => repeat (first | exact (Kd.C_below HR132_1.out HB.out) | (with_reducible refine Kd.C_alloc ?_ _) | (with_reducible refine Kd.C_drewN ?_ _) | (with_reducible refine Kd.C_drew ?_))); (case side4 => exact HC132_1.out); rintro e w' ⟨rfl, ⟨nd, rfl⟩⟩; (try first | exact ⟨rfl, _, World.drewN_drewN _ _ _⟩ | exact ⟨rfl, _, Eq.trans (World.drewN_drewN _ _ _) (congrArg (World.drewN _) (Nat.add_assoc _ _ _))⟩))); try go_wp2_with (first | (go_at_call 65; (with_reducible refine (vivariumref11_ints.calls k2 _ _ ((rd_T49 l0_2 x5_2).f1) _ _ ((rd_T49 l1_2 x5_2).f1) true _ ?side1 ?side2 ?side3 ?side4 A26.out).mono ?_); (case side1 => repeat (first | exact (Kd.C_below HR131_1.out HB.out) | (with_reducible refine Kd.C_alloc ?_ _) | (with_reducible refine Kd.C_drewN ?_ _) | (with_reducible refine Kd.C_drew ?_))); (case side2 => exact HC131_1.out); (case side3 => repeat (first | exact (Kd.C_below HR132_1.out HB.out) | (with_reducible refine Kd.C_alloc ?_ _) | (with_reducible refine Kd.C_drewN ?_ _) | (with_reducible refine Kd.C_drew ?_))); (case side4 => exact HC132_1.out); rintro e w' ⟨rfl, ⟨nd, rfl⟩⟩; (try first | exact ⟨rfl, _, World.drewN_drewN _ _ _⟩ | exact ⟨rfl, _, Eq.trans (World.drewN_drewN _ _ _) (congrArg (World.drewN _) (Nat.add_assoc _ _ _))⟩))))
                      go_roundg k2
                      case measure => have := HJ2.out; have := HK2.out; omega
                      case rel => exact ⟨(wrap64 (x5_2 + 1)), (by first | rfl | (simp; done) | (simp [*]; done) | (simp [wrap64]; done)), H', ⟨by have := HJ2.out; have := HK2.out; omega⟩, ⟨by (with_reducible repeat (first | refine blk_drewN ?_ _ | refine blk_drew ?_ | refine blk_alloc ?_ _)); exact BK127.out⟩, ⟨by (with_reducible repeat (first | refine blk_drewN ?_ _ | refine blk_drew ?_ | refine blk_alloc ?_ _)); exact BK128.out⟩, ⟨by repeat (first | (with_reducible first | exact HB.out | apply below_alloc | apply pw_below_drewN | apply below_drew1 | refine below_set ?_ GE127.out | refine below_set ?_ GE128.out) | exact HB.out)⟩⟩
                    · replace c27 := Bool.eq_false_iff.mpr c27
                      subst c27
                      have H1 : (some false) = some r := by rw [if_neg (show ¬ (false = true) by decide)] at H; exact H
                      clear H
                      have H := H1
                      clear H1
                      obtain rfl := Option.some.inj H
                      have hnb31 := NB127_128.out
                      have hnc31 := NB128_127.out
                      have hcz32_0 : wr.cell? ⟨gb127, 0, none⟩ = some (.int .i64 a0_0) := (blk_cell BK127.out 0).trans rfl
                      have hcz32_1 : wr.cell? ⟨gb127, 1, none⟩ = some (.int .i64 a0_1) := (blk_cell BK127.out 1).trans rfl
                      have hcz32_2 : wr.cell? ⟨gb127, 2, none⟩ = some (.slice A0_2 l0_2.length c0_2) := (blk_cell BK127.out 2).trans rfl
                      have hcz32_3 : wr.cell? ⟨gb127, 3, none⟩ = some (.int .i64 a0_3) := (blk_cell BK127.out 3).trans rfl
                      have hfz32_0 := blk_frozen BK127.out 0
                      have hfz32_1 := blk_frozen BK127.out 1
                      have hfz32_2 := blk_frozen BK127.out 2
                      have hfz32_3 := blk_frozen BK127.out 3
                      have p129 : 0 ≤ (x5_2 : Int) := of_decide_eq_true (by first | (with_reducible assumption) | assumption)
                      have q129 : x5_2 < (l0_2.length : Int) := of_decide_eq_true (by first | (with_reducible assumption) | assumption)
                      obtain ⟨ad129, A129_1, c129_1, e129, hx129_0, hx129_1, hl129_1, hi129_1⟩ := at_T49 HR0_2.out x5_2 p129 q129
                      cases e129
                      replace hx129_0 := (HB.out.cell (World.block_lt_of_cell? w _ hx129_0)).trans hx129_0
                      replace hx129_1 := (HB.out.cell (World.block_lt_of_cell? w _ hx129_1)).trans hx129_1
                      have HR129_1 := Aside0.mk hi129_1
                      have HC129_1 := Aside0.mk hl129_1
                      clear hi129_1 hl129_1
                      replace p129 := eq_true p129
                      replace q129 := eq_true q129
                      have hcz33_0 : wr.cell? ⟨gb128, 0, none⟩ = some (.int .i64 a1_0) := (blk_cell BK128.out 0).trans rfl
                      have hcz33_1 : wr.cell? ⟨gb128, 1, none⟩ = some (.int .i64 a1_1) := (blk_cell BK128.out 1).trans rfl
                      have hcz33_2 : wr.cell? ⟨gb128, 2, none⟩ = some (.slice A1_2 l1_2.length c1_2) := (blk_cell BK128.out 2).trans rfl
                      have hcz33_3 : wr.cell? ⟨gb128, 3, none⟩ = some (.int .i64 a1_3) := (blk_cell BK128.out 3).trans rfl
                      have hfz33_0 := blk_frozen BK128.out 0
                      have hfz33_1 := blk_frozen BK128.out 1
                      have hfz33_2 := blk_frozen BK128.out 2
                      have hfz33_3 := blk_frozen BK128.out 3
                      have p130 : 0 ≤ (x5_2 : Int) := of_decide_eq_true (by first | (with_reducible assumption) | assumption)
                      have q130 : x5_2 < (l1_2.length : Int) := of_decide_eq_true (by first | (with_reducible assumption) | assumption)
                      obtain ⟨ad130, A130_1, c130_1, e130, hx130_0, hx130_1, hl130_1, hi130_1⟩ := at_T49 HR1_2.out x5_2 p130 q130
                      cases e130
                      replace hx130_0 := (HB.out.cell (World.block_lt_of_cell? w _ hx130_0)).trans hx130_0
                      replace hx130_1 := (HB.out.cell (World.block_lt_of_cell? w _ hx130_1)).trans hx130_1
                      have HR130_1 := Aside0.mk hi130_1
                      have HC130_1 := Aside0.mk hl130_1
                      clear hi130_1 hl130_1
                      replace p130 := eq_true p130
                      replace q130 := eq_true q130
                      have p131 : 0 ≤ (x5_2 : Int) := of_decide_eq_true (by first | (with_reducible assumption) | assumption)
                      have q131 : x5_2 < (l0_2.length : Int) := of_decide_eq_true (by first | (with_reducible assumption) | assumption)
                      obtain ⟨ad131, A131_1, c131_1, e131, hx131_0, hx131_1, hl131_1, hi131_1⟩ := at_T49 HR0_2.out x5_2 p131 q131
                      obtain rfl : ad129 = ad131 := (by injection e131)
                      replace hx131_0 := (HB.out.cell (World.block_lt_of_cell? w _ hx131_0)).trans hx131_0
                      replace hx131_1 := (HB.out.cell (World.block_lt_of_cell? w _ hx131_1)).trans hx131_1
                      have HR131_1 := Aside0.mk hi131_1
                      have HC131_1 := Aside0.mk hl131_1
                      clear hi131_1 hl131_1
                      replace p131 := eq_true p131
                      replace q131 := eq_true q131
                      have ea_ := Option.some.inj (hx129_1.symm.trans hx131_1)
                      injection ea_ with ea_ en_ ec_
                      subst ea_
                      subst ec_
                      clear en_
                      have p132 : 0 ≤ (x5_2 : Int) := of_decide_eq_true (by first | (with_reducible assumption) | assumption)
                      have q132 : x5_2 < (l1_2.length : Int) := of_decide_eq_true (by first | (with_reducible assumption) | assumption)
                      obtain ⟨ad132, A132_1, c132_1, e132, hx132_0, hx132_1, hl132_1, hi132_1⟩ := at_T49 HR1_2.out x5_2 p132 q132
                      obtain rfl : ad130 = ad132 := (by injection e132)
                      replace hx132_0 := (HB.out.cell (World.block_lt_of_cell? w _ hx132_0)).trans hx132_0
                      replace hx132_1 := (HB.out.cell (World.block_lt_of_cell? w _ hx132_1)).trans hx132_1
                      have HR132_1 := Aside0.mk hi132_1
                      have HC132_1 := Aside0.mk hl132_1
                      clear hi132_1 hl132_1
                      replace p132 := eq_true p132
                      replace q132 := eq_true q132
                      have ea_ := Option.some.inj (hx130_1.symm.trans hx132_1)
                      injection ea_ with ea_ en_ ec_
                      subst ea_
                      subst ec_
                      clear en_
                      go_wp2_with (first | (go_at_call 65; (with_reducible refine (vivariumref11_ints.calls k2 _ _ ((rd_T49 l0_2 x5_2).f1) _ _ ((rd_T49 l1_2 x5_2).f1) false _ ?side1 ?side2 ?side3 ?side4 A26.out).mono ?_); (case side1 => repeat (first | exact (Kd.C_below HR131_1.out HB.out) | (with_reducible refine Kd.C_alloc ?_ _) | (with_reducible refine Kd.C_drewN ?_ _) | (with_reducible refine Kd.C_drew ?_))); (case side2 => exact HC131_1.out); (case side3 => repeat (first | exact (Kd.C_below HR132_1.out HB.out) | (with_reducible refine Kd.C_alloc ?_ _) | (with_reducible refine Kd.C_drewN ?_ _) | (with_reducible refine Kd.C_drew ?_))); (case side4 => exact HC132_1.out); rintro e w' ⟨rfl, ⟨nd, rfl⟩⟩; (try first | exact ⟨rfl, _, World.drewN_drewN _ _ _⟩ | exact ⟨rfl, _, Eq.trans (World.drewN_drewN _ _ _) (congrArg (World.drewN _) (Nat.add_assoc _ _ _))⟩)))
                      repeat (go_quiet (first | (go_at_call 65; (with_reducible refine (vivariumref11_ints.calls k2 _ _ ((rd_T49 l0_2 x5_2).f1) _ _ ((rd_T49 l1_2 x5_2).f1) false _ ?side1 ?side2 ?side3 ?side4 A26.out).mono ?_); (case side1 => repeat (first | exact (Kd.C_below HR131_1.out HB.out) | (with_reducible refine Kd.C_alloc ?_ _) | (with_reducible refine Kd.C_drewN ?_ _) | (with_reducible refine Kd.C_drew ?_))); (case side2 => exact HC131_1.out); (case side3 => repeat (first | exact (Kd.C_below HR132_1.out HB.out) | (with_reducible refine Kd.C_alloc ?_ _) | (with_reducible refine Kd.C_drewN ?_ _) | (with_reducible refine Kd.C_drew ?_))); (case side4 => exact HC132_1.out); rintro e w' ⟨rfl, ⟨nd, rfl⟩⟩; (try first | exact ⟨rfl, _, World.drewN_drewN _ _ _⟩ | exact ⟨rfl, _, Eq.trans (World.drewN_drewN _ _ _) (congrArg (World.drewN _) (Nat.add_assoc _ _ _))⟩))); try go_wp2_with (first | (go_at_call 65; (with_reducible refine (vivariumref11_ints.calls k2 _ _ ((rd_T49 l0_2 x5_2).f1) _ _ ((rd_T49 l1_2 x5_2).f1) false _ ?side1 ?side2 ?side3 ?side4 A26.out).mono ?_); (case side1 => repeat (first | exact (Kd.C_below HR131_1.out HB.out) | (with_reducible refine Kd.C_alloc ?_ _) | (with_reducible refine Kd.C_drewN ?_ _) | (with_reducible refine Kd.C_drew ?_))); (case side2 => exact HC131_1.out); (case side3 => repeat (first | exact (Kd.C_below HR132_1.out HB.out) | (with_reducible refine Kd.C_alloc ?_ _) | (with_reducible refine Kd.C_drewN ?_ _) | (with_reducible refine Kd.C_drew ?_))); (case side4 => exact HC132_1.out); rintro e w' ⟨rfl, ⟨nd, rfl⟩⟩; (try first | exact ⟨rfl, _, World.drewN_drewN _ _ _⟩ | exact ⟨rfl, _, Eq.trans (World.drewN_drewN _ _ _) (congrArg (World.drewN _) (Nat.add_assoc _ _ _))⟩))))
                      go_ret
                      exact ⟨by first | rfl | (simp [errW_none, errW_some] <;> rfl) | (simp [*, errW_none, errW_some] <;> rfl), by repeat (first | (with_reducible first | exact HB.out | apply below_alloc | apply pw_below_drewN | apply below_drew1 | refine below_set ?_ GE127.out | refine below_set ?_ GE128.out) | exact HB.out)⟩
                  · rw [if_neg c25] at H
                    have c25b0 : (((rd_T49 l0_2 x5_2).f0) == ((rd_T49 l1_2 x5_2).f0)) = false := beq_eq_false_iff_ne.mpr c25
                    have c25b1 : (((rd_T49 l0_2 x5_2).f0) != ((rd_T49 l1_2 x5_2).f0)) = true := bne_iff_ne.mpr c25
                    obtain rfl := Option.some.inj H
                    have hnb34 := NB127_128.out
                    have hnc34 := NB128_127.out
                    have hcz35_0 : wr.cell? ⟨gb127, 0, none⟩ = some (.int .i64 a0_0) := (blk_cell BK127.out 0).trans rfl
                    have hcz35_1 : wr.cell? ⟨gb127, 1, none⟩ = some (.int .i64 a0_1) := (blk_cell BK127.out 1).trans rfl
                    have hcz35_2 : wr.cell? ⟨gb127, 2, none⟩ = some (.slice A0_2 l0_2.length c0_2) := (blk_cell BK127.out 2).trans rfl
                    have hcz35_3 : wr.cell? ⟨gb127, 3, none⟩ = some (.int .i64 a0_3) := (blk_cell BK127.out 3).trans rfl
                    have hfz35_0 := blk_frozen BK127.out 0
                    have hfz35_1 := blk_frozen BK127.out 1
                    have hfz35_2 := blk_frozen BK127.out 2
                    have hfz35_3 := blk_frozen BK127.out 3
                    have p129 : 0 ≤ (x5_2 : Int) := of_decide_eq_true (by first | (with_reducible assumption) | assumption)
                    have q129 : x5_2 < (l0_2.length : Int) := of_decide_eq_true (by first | (with_reducible assumption) | assumption)
                    obtain ⟨ad129, A129_1, c129_1, e129, hx129_0, hx129_1, hl129_1, hi129_1⟩ := at_T49 HR0_2.out x5_2 p129 q129
                    cases e129
                    replace hx129_0 := (HB.out.cell (World.block_lt_of_cell? w _ hx129_0)).trans hx129_0
                    replace hx129_1 := (HB.out.cell (World.block_lt_of_cell? w _ hx129_1)).trans hx129_1
                    have HR129_1 := Aside0.mk hi129_1
                    have HC129_1 := Aside0.mk hl129_1
                    clear hi129_1 hl129_1
                    replace p129 := eq_true p129
                    replace q129 := eq_true q129
                    have hcz36_0 : wr.cell? ⟨gb128, 0, none⟩ = some (.int .i64 a1_0) := (blk_cell BK128.out 0).trans rfl
                    have hcz36_1 : wr.cell? ⟨gb128, 1, none⟩ = some (.int .i64 a1_1) := (blk_cell BK128.out 1).trans rfl
                    have hcz36_2 : wr.cell? ⟨gb128, 2, none⟩ = some (.slice A1_2 l1_2.length c1_2) := (blk_cell BK128.out 2).trans rfl
                    have hcz36_3 : wr.cell? ⟨gb128, 3, none⟩ = some (.int .i64 a1_3) := (blk_cell BK128.out 3).trans rfl
                    have hfz36_0 := blk_frozen BK128.out 0
                    have hfz36_1 := blk_frozen BK128.out 1
                    have hfz36_2 := blk_frozen BK128.out 2
                    have hfz36_3 := blk_frozen BK128.out 3
                    have p130 : 0 ≤ (x5_2 : Int) := of_decide_eq_true (by first | (with_reducible assumption) | assumption)
                    have q130 : x5_2 < (l1_2.length : Int) := of_decide_eq_true (by first | (with_reducible assumption) | assumption)
                    obtain ⟨ad130, A130_1, c130_1, e130, hx130_0, hx130_1, hl130_1, hi130_1⟩ := at_T49 HR1_2.out x5_2 p130 q130
                    cases e130
                    replace hx130_0 := (HB.out.cell (World.block_lt_of_cell? w _ hx130_0)).trans hx130_0
                    replace hx130_1 := (HB.out.cell (World.block_lt_of_cell? w _ hx130_1)).trans hx130_1
                    have HR130_1 := Aside0.mk hi130_1
                    have HC130_1 := Aside0.mk hl130_1
                    clear hi130_1 hl130_1
                    replace p130 := eq_true p130
                    replace q130 := eq_true q130
                    go_wp2
                    repeat (go_quiet (fail); try go_wp2)
                    go_ret
                    exact ⟨by first | rfl | (simp [errW_none, errW_some] <;> rfl) | (simp [*, errW_none, errW_some] <;> rfl), by repeat (first | (with_reducible first | exact HB.out | apply below_alloc | apply pw_below_drewN | apply below_drew1 | refine below_set ?_ GE127.out | refine below_set ?_ GE128.out) | exact HB.out)⟩
                · rw [if_neg c24] at H
                  exact absurd H (by simp)
              · rw [if_neg c23] at H
                exact absurd H (by simp)
            · rw [if_neg c22] at H
              have c22b0 : decide (x5_2 < (l0_2.length : Int)) = false := decide_eq_false c22
              clear c22
              obtain rfl := Option.some.inj H
              have hnb37 := NB127_128.out
              have hnc37 := NB128_127.out
              have hcz38_0 : wr.cell? ⟨gb127, 0, none⟩ = some (.int .i64 a0_0) := (blk_cell BK127.out 0).trans rfl
              have hcz38_1 : wr.cell? ⟨gb127, 1, none⟩ = some (.int .i64 a0_1) := (blk_cell BK127.out 1).trans rfl
              have hcz38_2 : wr.cell? ⟨gb127, 2, none⟩ = some (.slice A0_2 l0_2.length c0_2) := (blk_cell BK127.out 2).trans rfl
              have hcz38_3 : wr.cell? ⟨gb127, 3, none⟩ = some (.int .i64 a0_3) := (blk_cell BK127.out 3).trans rfl
              have hfz38_0 := blk_frozen BK127.out 0
              have hfz38_1 := blk_frozen BK127.out 1
              have hfz38_2 := blk_frozen BK127.out 2
              have hfz38_3 := blk_frozen BK127.out 3
              go_wp2
              repeat (go_quiet (fail); try go_wp2)
              go_ret
              exact ⟨by first | rfl | (simp [errW_none, errW_some] <;> rfl) | (simp [*, errW_none, errW_some] <;> rfl), by repeat (first | (with_reducible first | exact HB.out | apply below_alloc | apply pw_below_drewN | apply below_drew1 | refine below_set ?_ GE127.out | refine below_set ?_ GE128.out) | exact HB.out)⟩
end Go.Proofs.YtbnonnogkgbpiaaDoor.PT
end
section
namespace Go.Proofs.YtbnonnogkgbpiaaDoor.AliveT
open Go Go.RowKit Go.Proofs.YtbnonnogkgbpiaaDoorW.PrintWords Go.Proofs.YtbnonnogkgbpiaaDoorW.PrintLast Go.Proofs.YtbnonnogkgbpiaaDoorW.PrintMore Go.Proofs.YtbnonnogkgbpiaaDoor.PT Go.Proofs.YtbnonnogkgbpiaaDoor.TreePlain Go.Proofs.YtbnonnogkgbpiaaDoor.TreeText Go.Proofs.YtbnonnogkgbpiaaDoor.Forest Go.Proofs.YtbnonnogkgbpiaaDoor.Says
set_option linter.unusedVariables false
set_option linter.unusedSimpArgs false
end Go.Proofs.YtbnonnogkgbpiaaDoor.AliveT
end
section
namespace Go.Proofs.YtbnonnogkgbpiaaDoor.LentT
open Go Go.RowKit Go.Proofs.YtbnonnogkgbpiaaDoorW.PrintWords Go.Proofs.YtbnonnogkgbpiaaDoorW.PrintLast Go.Proofs.YtbnonnogkgbpiaaDoorW.PrintMore Go.Proofs.YtbnonnogkgbpiaaDoor.PT Go.Proofs.YtbnonnogkgbpiaaDoor.TreePlain Go.Proofs.YtbnonnogkgbpiaaDoor.TreeText
set_option linter.unusedVariables false
set_option linter.unusedSimpArgs false
def lcells (l : List S49) (K : List (Nat × Nat)) : Nat → List Value
  | 0 => []
  | i + 1 => lcells l K i ++ [.int .u8 (nd l i).f0, .slice (some ⟨(K.getD i (0, 0)).1, 0, none⟩) (nd l i).f1.length (K.getD i (0, 0)).2]
def marks2 : Nat → List Value
  | 0 => []
  | m + 1 => marks2 m ++ [.int .u8 77, .slice none 0 0]
theorem lcells_len (l : List S49) (K : List (Nat × Nat)) : ∀ i, (lcells l K i).length = 2 * i
  | 0 => rfl
  | i + 1 => by
    show (_ ++ [_, _]).length = _
    rw [List.length_append, lcells_len l K i]
    rfl
theorem lcells_congr (l : List S49) (K K' : List (Nat × Nat)) : ∀ i, (∀ j, j < i → K.getD j (0, 0) = K'.getD j (0, 0)) → lcells l K i = lcells l K' i
  | 0, _ => rfl
  | i + 1, h => by
    show _ ++ [_, _] = _ ++ [_, _]
    rw [lcells_congr l K K' i (fun j hj => h j (by omega)), h i (by omega)]
theorem lcells_at (l : List S49) (K : List (Nat × Nat)) : ∀ (n j : Nat) (R : List Value), j < n → (lcells l K n ++ R)[2 * j]? = some (.int .u8 (nd l j).f0) ∧ (lcells l K n ++ R)[2 * j + 1]? = some (.slice (some ⟨(K.getD j (0, 0)).1, 0, none⟩) (nd l j).f1.length (K.getD j (0, 0)).2)
  | 0, j, R, h => by omega
  | n + 1, j, R, h => by
    have hl := lcells_len l K n
    show ((lcells l K n ++ [_, _]) ++ R)[2 * j]? = _ ∧ ((lcells l K n ++ [_, _]) ++ R)[2 * j + 1]? = _
    rw [List.append_assoc]
    by_cases e : j < n
    · exact lcells_at l K n j _ e
    · have : j = n := by omega
      subst this
      constructor
      · rw [List.getElem?_append_right (by omega), hl, Nat.sub_self]
        rfl
      · rw [List.getElem?_append_right (by omega), hl, show 2 * j + 1 - 2 * j = 1 by omega]
        rfl
theorem addr_add (g n : Nat) : (⟨g, 0, none⟩ : Addr).add n = ⟨g, n, none⟩ := by
  unfold Addr.add
  split
  · rename_i h
    rw [h]
  · simp
structure LentAt (B : Nat) (W : World) (nv : Value) (l : List S49) (i m : Nat) (K : List (Nat × Nat)) : Prop where
  row : W.ownsRow B 49 2 nv (i + m) (lcells l K i ++ marks2 m)
  len : K.length = i
  kid : ∀ (j g c : Nat), K[j]? = some (g, c) → W.ownsRow B 3 1 (.slice (some ⟨g, 0, none⟩) ((nd l j).f1.length + 2) c) ((nd l j).f1.length + 2) (nums .i64 ((nd l j).f1 ++ [-7, -8]))
  ap : ∀ (i j : Nat) (a b : Nat × Nat), i ≠ j → K[i]? = some a → K[j]? = some b → a.1 ≠ b.1
section
variable {B : Nat} {W W' : World} {nv : Value} {l : List S49} {i m : Nat} {K : List (Nat × Nat)}
theorem LentAt.move (h : LentAt B W nv l i m K) (h1 : ∀ k, nv.ownBlock = some k → W'.heap[k]? = W.heap[k]?) (h2 : ∀ p ∈ K, W'.heap[p.1]? = W.heap[p.1]?) : LentAt B W' nv l i m K :=
  ⟨own_move h.row h1, h.len, fun j g c hj => own_move (h.kid j g c hj) (fun k hk => by
    obtain rfl : g = k := by simpa [Value.ownBlock] using hk
    exact h2 (g, c) (List.mem_of_getElem? hj)), h.ap⟩
theorem LentAt.on (h : LentAt B W nv l i m K) (hb : Below W.heap.size W W') : LentAt B W' nv l i m K :=
  h.move (fun k hk => hb.block k (own_lt h.row k hk)) (fun p hp => by
    obtain ⟨j, hj, e⟩ := List.mem_iff_getElem.1 hp
    exact hb.block p.1 (own_lt (h.kid j p.1 p.2 (by rw [List.getElem?_eq_getElem hj, e])) p.1 rfl))
theorem LentAt.lower {B' : Nat} (h : LentAt B W nv l i m K) (hb : B' ≤ B) : LentAt B' W nv l i m K :=
  ⟨own_weaken h.row hb, h.len, fun j g c hj => own_weaken (h.kid j g c hj) hb, h.ap⟩
theorem LentAt.start (B : Nat) (W : World) (l : List S49) : LentAt B W (.slice none 0 0) l 0 0 [] :=
  ⟨own_nil _ _ _ _, rfl, fun j g c h => by simp at h, fun i j a b _ h => by simp at h⟩
theorem LentAt.snoc {v1 : Value} {g c : Nat} (h : LentAt B W nv l i 0 K) (hg : W.grownBy W' nv.ownBlock) (ho : W'.ownsRow B 49 2 v1 (i + 1) (lcells l K i ++ [.int .u8 (nd l i).f0, .slice (some ⟨g, 0, none⟩) (nd l i).f1.length c]))
    (hv : W.ownsRow B 3 1 (.slice (some ⟨g, 0, none⟩) ((nd l i).f1.length + 2) c) ((nd l i).f1.length + 2) (nums .i64 ((nd l i).f1 ++ [-7, -8]))) (hk : ∀ p ∈ K, p.1 ≠ g) : LentAt B W' v1 l (i + 1) 0 (K ++ [(g, c)]) := by
  have hlen := h.len
  have other : ∀ {v : Value} {n : Nat} {xs : List Value}, W.ownsRow B 3 1 v n xs → W'.ownsRow B 3 1 v n xs := fun {v n xs} h2 => own_move h2 (fun k hk => hg.block k (own_lt h2 k hk) (fun e => by
    obtain ⟨cs, hc⟩ := own_typed h2 k hk
    obtain ⟨cs', hc'⟩ := own_typed h.row k e.symm
    rw [hc] at hc'
    injection hc' with hc'
    injection hc' with _ hc'
    exact absurd hc' (by decide)))
  have new : (K ++ [(g, c)]).getD i (0, 0) = (g, c) := by rw [List.getD_eq_getElem?_getD, ← hlen, List.getElem?_append_right (Nat.le_refl _), Nat.sub_self]; rfl
  refine ⟨?_, by simp [hlen], ?_, ?_⟩
  · show W'.ownsRow B _ 2 v1 (i + 1 + 0) ((lcells l (K ++ [(g, c)]) i ++ [_, _]) ++ [])
    rw [List.append_nil, new, lcells_congr l (K ++ [(g, c)]) K i (fun j hj => by rw [List.getD_eq_getElem?_getD, List.getD_eq_getElem?_getD, List.getElem?_append_left (by omega)])]
    exact ho
  · intro j g' c' hj
    by_cases e : j < i
    · rw [List.getElem?_append_left (by omega)] at hj
      exact other (h.kid j g' c' hj)
    · rw [List.getElem?_append_right (by omega)] at hj
      have e0 : j = i := by
        have := (List.getElem?_eq_some_iff.1 hj).1
        simp at this
        omega
      subst e0
      rw [hlen, Nat.sub_self] at hj
      obtain ⟨rfl, rfl⟩ : g = g' ∧ c = c' := by simpa using hj
      exact other hv
  · intro a b p q hne hp hq
    have hK : ∀ (j : Nat) (r : Nat × Nat), (K ++ [(g, c)])[j]? = some r → (j < i ∧ r ∈ K) ∨ (j = i ∧ r = (g, c)) := by
      intro j r hj
      by_cases e : j < i
      · rw [List.getElem?_append_left (by omega)] at hj
        exact .inl ⟨e, List.mem_of_getElem? hj⟩
      · rw [List.getElem?_append_right (by omega)] at hj
        have e0 : j = i := by
          have := (List.getElem?_eq_some_iff.1 hj).1
          simp at this
          omega
        subst e0
        rw [hlen, Nat.sub_self] at hj
        exact .inr ⟨rfl, by simpa using hj.symm⟩
    rcases hK a p hp with ⟨ha, hpm⟩ | ⟨rfl, rfl⟩
    · rcases hK b q hq with ⟨hb, hqm⟩ | ⟨rfl, rfl⟩
      · rw [List.getElem?_append_left (by omega)] at hp hq
        exact h.ap a b p q hne hp hq
      · exact hk p hpm
    · rcases hK b q hq with ⟨hb, hqm⟩ | ⟨rfl, rfl⟩
      · exact (hk q hqm).symm
      · exact absurd rfl hne
theorem LentAt.mark {v1 : Value} (h : LentAt B W nv l i m K) (hg : W.grownBy W' nv.ownBlock) (ho : W'.ownsRow B 49 2 v1 (i + m + 1) ((lcells l K i ++ marks2 m) ++ [.int .u8 77, .slice none 0 0])) : LentAt B W' v1 l i (m + 1) K :=
  ⟨by rw [show lcells l K i ++ marks2 (m + 1) = (lcells l K i ++ marks2 m) ++ [.int .u8 77, .slice none 0 0] from (List.append_assoc ..).symm]; exact ho, h.len, fun j g c hj => own_move (h.kid j g c hj) (fun k hk => hg.block k (own_lt (h.kid j g c hj) k hk) (fun e => by
    obtain ⟨cs, hc⟩ := own_typed (h.kid j g c hj) k hk
    obtain ⟨cs', hc'⟩ := own_typed h.row k e.symm
    rw [hc] at hc'
    injection hc' with hc'
    injection hc' with _ hc'
    exact absurd hc' (by decide))), h.ap⟩
theorem LentAt.set (h : LentAt B W nv l i m K) {q j : Nat} {v : Value} {cs : Array Value} {ty : TypeId} {f : Nat × Nat} (hq : W.heap[q]? = some (.cells cs ty f)) (h1 : ty ≠ 49) (h2 : ty ≠ 3) : LentAt B (W.setCell ⟨q, j, none⟩ v) nv l i m K := by
  have far : ∀ (k : Nat) (cs' : Array Value) (t' : TypeId) (f' : Nat × Nat), W.heap[k]? = some (.cells cs' t' f') → ty ≠ t' → (W.setCell ⟨q, j, none⟩ v).heap[k]? = W.heap[k]? := by
    intro k cs' t' f' hk hne
    exact Below.heap_setCell _ ⟨q, j, none⟩ _ _ (fun e => by
      rw [show k = q from e, hq] at hk
      injection hk with hk
      injection hk with _ hk
      exact hne hk)
  refine h.move (fun k hk => ?_) (fun p hp => ?_)
  · obtain ⟨cs', hc⟩ := own_typed h.row k hk
    exact far k _ _ _ hc h1
  · obtain ⟨j', hj, e⟩ := List.mem_iff_getElem.1 hp
    obtain ⟨cs', hc⟩ := own_typed (h.kid j' p.1 p.2 (by rw [List.getElem?_eq_getElem hj, e])) p.1 rfl
    exact far p.1 _ _ _ hc h2
theorem LentAt.reads {gn cn : Nat} (h : LentAt B W (.slice (some ⟨gn, 0, none⟩) (l.length + m) cn) l l.length m K) (hm : l.length ≤ 9223372036854775807) : Kd.C k49 W (some ⟨gn, 0, none⟩) l.length l := by
  refine ⟨rfl, hm, fun _ => ⟨_, rfl, fun j p hj => ?_⟩⟩
  have hjl : j < l.length := (List.getElem?_eq_some_iff.1 hj).1
  have hp : nd l j = p := by unfold nd; rw [List.getD_eq_getElem?_getD, hj]; rfl
  have hjK : j < K.length := by rw [h.len]; exact hjl
  have hk : K[j]? = some K[j] := List.getElem?_eq_getElem hjK
  have hkd : K.getD j (0, 0) = K[j] := by rw [List.getD_eq_getElem?_getD, hk]; rfl
  have ho := h.kid j _ _ hk
  have hr := own_reads' ho
  have hr2 := hr.take_ (nd l j).f1.length (by omega)
  rw [List.take_left'  rfl] at hr2
  have hcap : (nd l j).f1.length + 2 ≤ K[j].2 := own_cap ho
  obtain ⟨q1, q2⟩ := lcells_at l K l.length j (marks2 m) hjl
  rw [hkd] at q2
  have c1 := h.row.cellAt (2 * j) (by omega)
  have c2 := h.row.cellAt (2 * j + 1) (by omega)
  rw [q1] at c1
  rw [q2] at c2
  rw [hp] at c1 c2 hr2 hcap
  refine ⟨[.int .u8 p.f0, .slice (some ⟨K[j].1, 0, none⟩) p.f1.length K[j].2], rfl, k49_mk W p (by omega) (Kd.C_of_reads hr2), fun q u hu => ?_⟩
  match q, hu with
  | 0, hu =>
    obtain rfl := Option.some.inj hu
    have e : (⟨gn, 0, none⟩ : Addr).add (j * k49.sz + 0) = ⟨gn, 2 * j, none⟩ := by
      have : j * k49.sz + 0 = 2 * j := by show j * 2 + 0 = _; omega
      rw [this]
      exact addr_add gn _
    rw [e]
    exact c1
  | 1, hu =>
    obtain rfl := Option.some.inj hu
    have e : (⟨gn, 0, none⟩ : Addr).add (j * k49.sz + 1) = ⟨gn, 2 * j + 1, none⟩ := by
      have : j * k49.sz + 1 = 2 * j + 1 := by show j * 2 + 1 = _; omega
      rw [this]
      exact addr_add gn _
    rw [e]
    exact c2
end
end Go.Proofs.YtbnonnogkgbpiaaDoor.LentT
end
section
namespace Go.Proofs.YtbnonnogkgbpiaaDoor.LentT
open Go Go.RowKit Go.Proofs.YtbnonnogkgbpiaaDoorW.PrintWords Go.Proofs.YtbnonnogkgbpiaaDoorW.PrintLast Go.Proofs.YtbnonnogkgbpiaaDoorW.PrintMore Go.Proofs.YtbnonnogkgbpiaaDoor.PT Go.Proofs.YtbnonnogkgbpiaaDoor.TreePlain Go.Proofs.YtbnonnogkgbpiaaDoor.TreeText
set_option linter.unusedVariables false
set_option linter.unusedSimpArgs false
theorem four {W : World} {t ty : Nat} {v0 v1 v2 v3 : Value} (h : W.heap[t]? = some (.cells #[v0, v1, v2, v3] ty (0, 0))) : W.cell? ⟨t, 0, none⟩ = some v0 ∧ W.cell? ⟨t, 1, none⟩ = some v1 ∧ W.cell? ⟨t, 2, none⟩ = some v2 ∧ W.cell? ⟨t, 3, none⟩ = some v3 :=
  ⟨(blk_cell h 0).trans rfl, (blk_cell h 1).trans rfl, (blk_cell h 2).trans rfl, (blk_cell h 3).trans rfl⟩
theorem lit_c {W : World} {e : TypeId} (k : IntKind) (xs : List Int) (hm : xs.length ≤ 9223372036854775807) : Kd.C (Kd.int k) (W.alloc (.cells (nums k xs).toArray e)) (some ⟨W.heap.size, 0, none⟩) xs.length xs :=
  Kd.C_of_reads (own_reads' (own_lit W 0 e k xs (Nat.zero_le _) hm))
def SC (t : Nat) (ad : Addr) (x : Int) (N : Value) (s : Int) (v : Value) (W : World) : Prop := W.cell? ⟨t, 2, none⟩ = some N ∧ W.cell? (ad.add (x.toNat * 2)) = some (.int .u8 s) ∧ W.cell? ⟨(ad.add (x.toNat * 2)).block, (ad.add (x.toNat * 2)).off + 1, none⟩ = some v
theorem SC.on {t : Nat} {ad : Addr} {x : Int} {N : Value} {s : Int} {v : Value} {W W' : World} (h : SC t ad x N s v W) (hb : Below W.heap.size W W') : SC t ad x N s v W' := ⟨pw_cell_below hb h.1, pw_cell_below hb h.2.1, pw_cell_below hb h.2.2⟩
def LentTold (w : World) (st n : Int) (l : List S49) (rt : Int) (e : Ending) (w' : World) : Prop := ∃ gn cn K, e = .returned (.agg #[.int .i64 st, .int .i64 n, .slice (some ⟨gn, 0, none⟩) l.length cn, .int .i64 rt]) ∧ LentAt w.heap.size w' (.slice (some ⟨gn, 0, none⟩) (l.length + 2) cn) l l.length 2 K ∧ Below w.heap.size w w'
set_option maxHeartbeats 16000000 in
set_option maxRecDepth 100000 in
theorem lent_calls (st n : Int) (A : Option Addr) (c : Nat) (l : List S49) (rt : Int) (w : World) (hr : Kd.C k49 w A l.length l) (hc : l.length ≤ c) (hl : l.length ≤ 2000000) (hk : ∀ j, (nd l j).f1.length ≤ 2000000) :
    Calls Tryd.prog 35 #[.agg #[.int .i64 st, .int .i64 n, .slice A l.length c, .int .i64 rt]] w fun e w' => LentTold w st n l rt e w' := by
  have hu := Tryd.underlying24
  have hu49 := Tryd.underlying49
  have HR := Aside0.mk hr
  have HC := Aside0.mk hc
  have HL := Aside0.mk (And.intro hl hk)
  have HB := Aside0.mk (Below.refl w.heap.size w)
  clear hr hc hl hk
  go_enter Tryd.func35, Tryd.ntmps35
  go_wp2_with (first
    | ((with_reducible refine gate_dst (N := 1) rfl ?_); refine box_event ?hg (N := 1) ?hd (cs := #[.int .i64 st, .int .i64 n, .slice A l.length c, .int .i64 rt]) (t := 24) ?hr ?_; (case hd => rfl); (case hg => rfl); (case hr => first | (go_simp; done) | (go_simp; rfl)); intro t hg W9 hbox hb; have n_ := below_step HB.out hb; have GE1 := Aside0.mk (show w.heap.size ≤ t by rw [hg]; exact Nat.le_refl _); clear HB; have HB := Aside0.mk n_; have BX := Aside0.mk hbox; clear n_ hg hbox hb)
    | ((with_reducible refine gate_dst (N := 2) rfl ?_); refine box_event ?hg2 (N := 2) ?hd2 (cs := #[.int .i64 0, .int .i64 0, .slice none 0 0, .int .i64 0]) (t := 24) ?hr2 ?_; (case hd2 => rfl); (case hg2 => rfl); (case hr2 => first | (go_simp; done) | (go_simp; rfl)); intro t2 hg W8 hbox hb; have n_ := below_step HB.out hb; have m_ := blk_below BX.out hb; have NE := Aside0.mk (show t ≠ t2 by have h1 := blk_lt BX.out; omega); have GE2 := Aside0.mk (show w.heap.size ≤ t2 by have h1 := HB.out.size; omega); clear HB BX; have HB := Aside0.mk n_; have BX := Aside0.mk m_; have B2 := Aside0.mk hbox; clear n_ m_ hg hbox hb))
  go_loopg [3, 4] l.length (fun g_ s3 s4 wq => ∃ (x : Int) (nv : Value) (K : List (Nat × Nat)), s4 = .int .i64 x ∧ s3 = nv ∧ Aside0 (0 ≤ x ∧ (g_ : Int) = l.length - x) ∧ Aside0 (LentAt w.heap.size wq nv l x.toNat 0 K) ∧ Aside0 (wq.heap[t]? = some (.cells #[.int .i64 st, .int .i64 n, .slice A l.length c, .int .i64 rt] 24 (0, 0))) ∧ Aside0 (wq.heap[t2]? = some (.cells #[.int .i64 0, .int .i64 0, .slice none 0 0, .int .i64 0] 24 (0, 0))) ∧ Aside0 (Below w.heap.size w wq))
  case atStart => exact ⟨0, _, [], rfl, rfl, ⟨by omega, by omega⟩, ⟨LentAt.start _ _ _⟩, BX, B2, HB⟩
  case round =>
    obtain ⟨x, nv, K0, rfl, rfl, HX, H, BX, B2, HB⟩ := hrel
    obtain ⟨gc0, gc1, gc2, gc3⟩ := four BX.out
    by_cases q : x < (l.length : Int)
    case pos =>
      have p0 : 0 ≤ x := HX.out.1
      have w1_ : wrap64 (x + 1) = x + 1 := by have := HL.out.1; unfold wrap64; omega
      obtain ⟨ad, A1, c1, rfl, k0w, k1w, hc1, hK1⟩ := at_T49 HR.out x p0 q
      have k0_ := pw_cell_below HB.out k0w
      have k1_ := pw_cell_below HB.out k1w
      have HKK := Aside0.mk (show Kd.C (Kd.int .i64) wr A1 (rd_T49 l x).f1.length (rd_T49 l x).f1 from Kd.C_below hK1 HB.out)
      have hnd : nd l x.toNat = rd_T49 l x := rfl
      have hkl := HL.out.2 x.toNat
      rw [hnd] at hkl
      generalize rd_T49 l x = X at *
      obtain ⟨s, ks⟩ := X
      dsimp only at *
      have HND := Aside0.mk hnd
      have HKL := Aside0.mk hkl
      have HSC := Aside0.mk (show SC t ad x (.slice (some ad) l.length c) s (.slice A1 ks.length c1) wr from ⟨gc2, k0_, k1_⟩)
      obtain ⟨An, cn, rfl⟩ := own_slice H.out.row
      have W0 := Aside0.mk (And.intro k0w k1w)
      clear k0w k1w hc1 hK1 hnd hkl
      go_upto_region 8 with (first
        | ((with_reducible refine gate_builtin (b := .append) (xs := #[.tmp 14, .tmp 20]) rfl ?_); at_builtin; refine Kd.R_append_rows (Kd.int .i64) (w0 := wr) wr.heap.size rfl (.tmp 14) (.tmp 20) 47 3 (.int .i64 0) 8 rfl Tryd.underlying47 info3 rfl (by decide) (by omega) (.slice none 0 0) ([] : List Int) ks _ _ _ (fun k_ => (wr.heap.size ≤ k_)) (fun _ => False) rfl rfl (Kd.R_nil _ _ _ _ _) HKK.out (fun _ _ h => h) (fun _ h => h.elim) (fun k_ hk => hk) (Below.refl _ _) (Nat.le_refl _) (by have := HKL.out; simp; omega) ?_; intro v6 w6 ho hb hg hat; rw [List.nil_append] at ho; have HO6 := Aside0.mk ho; obtain ⟨A6, c6, rfl⟩ := Kd.R_slice ho; have HB6 := Aside0.mk hb; have SC6 := Aside0.mk (HSC.out.on hb); obtain ⟨gc2, k0_, k1_⟩ := SC6.out; clear ho hb hg hat)
        | ((with_reducible refine gate_builtin (b := .append) (xs := #[.tmp 22, .tmp 23]) rfl ?_); at_builtin; refine Kd.R_append_rows (Kd.int .i64) (w0 := wr) wr.heap.size rfl (.tmp 22) (.tmp 23) 47 3 (.int .i64 0) 8 rfl Tryd.underlying47 info3 rfl (by decide) (by omega) (.slice A6 ks.length c6) ks ([-7, -8] : List Int) _ _ _ (fun k_ => (wr.heap.size ≤ k_)) (fun _ => False) rfl rfl (Kd.R_alloc HO6.out _) (lit_c (e := 3) .i64 [-7, -8] (by decide)) (fun _ _ h => h) (fun _ h => h.elim) (fun k_ hk => Nat.le_trans (Nat.le_trans HB6.out.size (by simp)) hk) (below_alloc HB6.out _) (Nat.le_trans HB6.out.size (by simp)) (by have := HKL.out; simp; omega) ?_; intro v7 w7 ho hb hg hat; have HO7 := Aside0.mk ho; have HB7 := Aside0.mk hb; clear gc2 k0_ k1_; have SC7 := Aside0.mk (HSC.out.on hb); obtain ⟨gc2, k0_, k1_⟩ := SC7.out; clear SC6 HO6 HB6 ho hb hg hat))
      obtain ⟨g7, c7, rfl, hg7, _⟩ := Kd.R_form HO7.out (by simp)
      have hl7 : (ks ++ [-7, -8]).length = ks.length + 2 := by simp
      have ho7 : w7.ownsRow wr.heap.size 3 1 (.slice (some ⟨g7, 0, none⟩) (ks.length + 2) c7) (ks.length + 2) (nums .i64 (ks ++ [-7, -8])) := by
        have h := Kd.own_of_R HO7.out
        rw [hl7] at h
        exact h
      have HO := Aside0.mk ho7
      have HC7 := Aside0.mk (own_cap ho7)
      have HG7 := Aside0.mk hg7
      rw [hl7]
      clear ho7 hg7 HO7
      clear gc0 gc1 gc3 gc2 k0_ k1_
      have cap_ : ((ks.length : Nat) : Int) ≤ (c7 : Int) := by have := HC7.out; omega
      refine start_ (n := 20) (S := fun w' => w'.cell? ⟨t, 2, none⟩ = some (.slice (some ad) l.length c) ∧ w'.cell? (ad.add (x.toNat * 2)) = some (.int .u8 s) ∧ w'.cell? ⟨(ad.add (x.toNat * 2)).block, (ad.add (x.toNat * 2)).off + 1, none⟩ = some (.slice A1 ks.length c1)) (ds := []) #[false, false, false, false, false, false, false, false, false, false, false, false, false, false, false, false, false, false, false, false] (by kernel_rfl) rfl rfl (SC7.out) (fun hHeld => ?_)
      have hb7d := below_drew (Below.refl w7.heap.size w7)
      have HXX := Aside0.mk ((H.out.on HB7.out).on hb7d)
      have HOX := Aside0.mk (own_move (w1 := w7.drew) HO.out (fun _ _ => rfl))
      have HBX := Aside0.mk (HB.out.trans ((HB7.out.trans (mono hb7d HB7.out.size)).mono HB.out.size))
      have BXX := Aside0.mk (blk_below (blk_below BX.out HB7.out) hb7d)
      have B2X := Aside0.mk (blk_below (blk_below B2.out HB7.out) hb7d)
      have SCX := Aside0.mk (SC7.out.on hb7d)
      have HROW := Aside0.mk (show w7.drew.ownsRow w.heap.size 49 2 (.slice An x.toNat cn) x.toNat (lcells l K0 x.toNat) from by have h_ := HXX.out.row; rw [show marks2 0 = [] from rfl, List.append_nil] at h_; exact h_)
      generalize w7.drew = wx at HXX HOX HBX BXX B2X SCX HROW hHeld ⊢
      clear hb7d HB7 SC7 HO
      refine pure_ (i := 0) (N := (some 25)) (v := ?_) (a' := ?_) #[true, false, false, false, false, false, false, false, false, false, false, false, false, false, false, false, false, false, false, false] rfl rfl (by kernel_rfl) (fun _ _ _ h => h) (Or.inl ⟨by rfl, ?_⟩) ?_ ?_
      rotate_left
      · intro w'
        go_simp
        with_reducible rfl
      rotate_left
      · simp only [Act.put, List.setIfInBounds_toArray, List.set_cons_zero, List.set_cons_succ, i64_w, i32_w]
        rfl
      refine pure_ (i := 1) (N := (some 26)) (v := ?_) (a' := ?_) #[true, true, false, false, false, false, false, false, false, false, false, false, false, false, false, false, false, false, false, false] rfl rfl (by kernel_rfl) (fun _ _ _ h => h) (Or.inl ⟨by rfl, ?_⟩) ?_ ?_
      rotate_left
      · intro w'
        go_simp
        with_reducible rfl
      rotate_left
      · simp only [Act.put, List.setIfInBounds_toArray, List.set_cons_zero, List.set_cons_succ, i64_w, i32_w]
        rfl
      refine take_ (i := 2) (N := (some 27)) (v := ?_) (a' := ?_) #[true, true, true, false, false, false, false, false, false, false, false, false, false, false, false, false, false, false, false, false] rfl rfl (by kernel_rfl) (fun _ _ _ h => h) (Or.inl ⟨by rfl, ?_⟩) hHeld ?_ ?_
      rotate_left
      · rintro w' ⟨s0, s1, s2⟩
        go_simp
        with_reducible rfl
      rotate_left
      · simp only [Act.put, List.setIfInBounds_toArray, List.set_cons_zero, List.set_cons_succ, i64_w, i32_w]
        rfl
      refine pure_ (i := 3) (N := (some 28)) (v := ?_) (a' := ?_) #[true, true, true, true, false, false, false, false, false, false, false, false, false, false, false, false, false, false, false, false] rfl rfl (by kernel_rfl) (fun _ _ _ h => h) (Or.inl ⟨by rfl, ?_⟩) ?_ ?_
      rotate_left
      · intro w'
        go_simp
        with_reducible rfl
      rotate_left
      · simp only [Act.put, List.setIfInBounds_toArray, List.set_cons_zero, List.set_cons_succ, i64_w, i32_w]
        rfl
      refine pure_ (i := 4) (N := (some 29)) (v := ?_) (a' := ?_) #[true, true, true, true, true, false, false, false, false, false, false, false, false, false, false, false, false, false, false, false] rfl rfl (by kernel_rfl) (fun _ _ _ h => h) (Or.inl ⟨by rfl, ?_⟩) ?_ ?_
      rotate_left
      · intro w'
        go_simp
        with_reducible rfl
      rotate_left
      · simp only [Act.put, List.setIfInBounds_toArray, List.set_cons_zero, List.set_cons_succ, i64_w, i32_w]
        rfl
      refine pure_ (i := 5) (N := (some 30)) (v := ?_) (a' := ?_) #[true, true, true, true, true, true, false, false, false, false, false, false, false, false, false, false, false, false, false, false] rfl rfl (by kernel_rfl) (fun _ _ _ h => h) (Or.inl ⟨by rfl, ?_⟩) ?_ ?_
      rotate_left
      · intro w'
        go_simp
        with_reducible rfl
      rotate_left
      · simp only [Act.put, List.setIfInBounds_toArray, List.set_cons_zero, List.set_cons_succ, i64_w, i32_w]
        rfl
      refine take_ (i := 6) (N := (some 31)) (v := ?_) (a' := ?_) #[true, true, true, true, true, true, true, false, false, false, false, false, false, false, false, false, false, false, false, false] rfl rfl (by kernel_rfl) (fun _ _ _ h => h) (Or.inl ⟨by rfl, ?_⟩) hHeld ?_ ?_
      rotate_left
      · rintro w' ⟨s0, s1, s2⟩
        go_simp
        with_reducible rfl
      rotate_left
      · simp only [Act.put, List.setIfInBounds_toArray, List.set_cons_zero, List.set_cons_succ, i64_w, i32_w]
        rfl
      refine pure_ (i := 7) (N := (some 32)) (v := ?_) (a' := ?_) #[true, true, true, true, true, true, true, true, false, false, false, false, false, false, false, false, false, false, false, false] rfl rfl (by kernel_rfl) (fun _ _ _ h => h) (Or.inl ⟨by rfl, ?_⟩) ?_ ?_
      rotate_left
      · intro w'
        go_simp
        with_reducible rfl
      rotate_left
      · simp only [Act.put, List.setIfInBounds_toArray, List.set_cons_zero, List.set_cons_succ, i64_w, i32_w]
        rfl
      refine pure_ (i := 8) (N := (some 33)) (v := ?_) (a' := ?_) #[true, true, true, true, true, true, true, true, true, false, false, false, false, false, false, false, false, false, false, false] rfl rfl (by kernel_rfl) (fun _ _ _ h => h) (Or.inl ⟨by rfl, ?_⟩) ?_ ?_
      rotate_left
      · intro w'
        go_simp
        with_reducible rfl
      rotate_left
      · simp only [Act.put, List.setIfInBounds_toArray, List.set_cons_zero, List.set_cons_succ, i64_w, i32_w]
        rfl
      refine take_ (i := 9) (N := (some 34)) (v := ?_) (a' := ?_) #[true, true, true, true, true, true, true, true, true, true, false, false, false, false, false, false, false, false, false, false] rfl rfl (by kernel_rfl) (fun _ _ _ h => h) (Or.inl ⟨by rfl, ?_⟩) hHeld ?_ ?_
      rotate_left
      · rintro w' ⟨s0, s1, s2⟩
        go_simp
        with_reducible rfl
      rotate_left
      · simp only [Act.put, List.setIfInBounds_toArray, List.set_cons_zero, List.set_cons_succ, i64_w, i32_w]
        rfl
      refine pure_ (i := 10) (N := (some 35)) (v := ?_) (a' := ?_) #[true, true, true, true, true, true, true, true, true, true, true, false, false, false, false, false, false, false, false, false] rfl rfl (by kernel_rfl) (fun _ _ _ h => h) (Or.inl ⟨by rfl, ?_⟩) ?_ ?_
      rotate_left
      · intro w'
        go_simp
        with_reducible rfl
      rotate_left
      · simp only [Act.put, List.setIfInBounds_toArray, List.set_cons_zero, List.set_cons_succ, i64_w, i32_w]
        rfl
      refine pure_ (i := 11) (N := (some 36)) (v := ?_) (a' := ?_) #[true, true, true, true, true, true, true, true, true, true, true, true, false, false, false, false, false, false, false, false] rfl rfl (by kernel_rfl) (fun _ _ _ h => h) (Or.inl ⟨by rfl, ?_⟩) ?_ ?_
      rotate_left
      · intro w'
        go_simp
        with_reducible rfl
      rotate_left
      · simp only [Act.put, List.setIfInBounds_toArray, List.set_cons_zero, List.set_cons_succ, i64_w, i32_w]
        rfl
      refine pure_ (i := 12) (N := (some 37)) (v := ?_) (a' := ?_) #[true, true, true, true, true, true, true, true, true, true, true, true, true, false, false, false, false, false, false, false] rfl rfl (by kernel_rfl) (fun _ _ _ h => h) (Or.inl ⟨by rfl, ?_⟩) ?_ ?_
      rotate_left
      · intro w'
        go_simp
        with_reducible rfl
      rotate_left
      · simp only [Act.put, List.setIfInBounds_toArray, List.set_cons_zero, List.set_cons_succ, i64_w, i32_w]
        rfl
      refine take_ (i := 13) (N := (some 38)) (v := ?_) (a' := ?_) #[true, true, true, true, true, true, true, true, true, true, true, true, true, true, false, false, false, false, false, false] rfl rfl (by kernel_rfl) (fun _ _ _ h => h) (Or.inl ⟨by rfl, ?_⟩) hHeld ?_ ?_
      rotate_left
      · rintro w' ⟨s0, s1, s2⟩
        go_simp
        with_reducible rfl
      rotate_left
      · simp only [Act.put, List.setIfInBounds_toArray, List.set_cons_zero, List.set_cons_succ, i64_w, i32_w]
        rfl
      refine pure_ (i := 14) (N := (some 39)) (v := ?_) (a' := ?_) #[true, true, true, true, true, true, true, true, true, true, true, true, true, true, true, false, false, false, false, false] rfl rfl (by kernel_rfl) (fun _ _ _ h => h) (Or.inl ⟨by rfl, ?_⟩) ?_ ?_
      rotate_left
      · intro w'
        go_simp
        with_reducible rfl
      rotate_left
      · simp only [Act.put, List.setIfInBounds_toArray, List.set_cons_zero, List.set_cons_succ, i64_w, i32_w]
        rfl
      refine pure_ (i := 15) (N := (some 40)) (v := ?_) (a' := ?_) #[true, true, true, true, true, true, true, true, true, true, true, true, true, true, true, true, false, false, false, false] rfl rfl (by kernel_rfl) (fun _ _ _ h => h) (Or.inl ⟨by rfl, ?_⟩) ?_ ?_
      rotate_left
      · intro w'
        go_simp
        with_reducible rfl
      rotate_left
      · simp only [Act.put, List.setIfInBounds_toArray, List.set_cons_zero, List.set_cons_succ, i64_w, i32_w]
        rfl
      refine pure_ (i := 16) (N := (some 41)) (v := ?_) (a' := ?_) #[true, true, true, true, true, true, true, true, true, true, true, true, true, true, true, true, true, false, false, false] rfl rfl (by kernel_rfl) (fun _ _ _ h => h) (Or.inl ⟨by rfl, ?_⟩) ?_ ?_
      rotate_left
      · intro w'
        go_simp
        with_reducible rfl
      rotate_left
      · simp only [Act.put, List.setIfInBounds_toArray, List.set_cons_zero, List.set_cons_succ, i64_w, i32_w]
        rfl
      refine one_ (i := 17) (N := (some 42)) #[true, true, true, true, true, true, true, true, true, true, true, true, true, true, true, true, true, true, false, false] rfl rfl (by kernel_rfl) (by decide) (fun K hK => ?_)
      refine value_ (w1 := wx.alloc (.cells #[.int .u8 s, .slice (some ⟨g7, 0, none⟩) ks.length c7] 49)) (v := .slice (some ⟨wx.heap.size, 0, none⟩) 1 1) (by rfl) rfl ?_ ?_
      · go_simp
      refine hK.out _ _ (SCX.out.on ((Below.refl _ _).alloc (Nat.le_refl _) (.cells #[.int .u8 s, .slice (some ⟨g7, 0, none⟩) ks.length c7] 49))) (fun hHeld => ?_)
      clear hK K
      refine one_ (i := 18) (N := (some 43)) #[true, true, true, true, true, true, true, true, true, true, true, true, true, true, true, true, true, true, true, false] rfl rfl (by kernel_rfl) (by decide) (fun K hK => ?_)
      refine step_append_cells (w0 := w) (W := wx) w.heap.size (by rfl) (.tmp 25) (.tmp 42) 22 49 (.agg #[.int .u8 0, .slice none 0 0]) 2 32 rfl Tryd.underlying22 (by kernel_rfl) rfl (by decide) (by decide) (.slice An x.toNat cn) x.toNat (lcells l K0 x.toNat) [.int .u8 s, .slice (some ⟨g7, 0, none⟩) ks.length c7] rfl rfl rfl (by intro u hu; simp at hu; rcases hu with hu | hu; (rw [hu]; rfl); (rw [hu]; rfl)) HROW.out HBX.out HBX.out.size (by have := HL.out.1; have := HX.out; omega) ?_
      intro v1_ w4 ho_ hb_ hg_ hat_
      have H4 := Aside0.mk (HXX.out.snoc (g := g7) (c := c7) hg_ (by rw [HND.out]; exact ho_) (by rw [HND.out]; exact own_weaken HOX.out (Nat.le_trans HB.out.size (Nat.le_refl _))) (fun p hp => by
        obtain ⟨j, hj, e⟩ := List.mem_iff_getElem.1 hp
        have h1 := own_lt (H.out.kid j p.1 p.2 (by rw [List.getElem?_eq_getElem hj, e])) p.1 rfl
        have h2 := HG7.out
        omega))
      have HB4 := Aside0.mk hb_
      have X4 := Aside0.mk (blk_grown BXX.out hg_ (fun e => by obtain ⟨cs, hc⟩ := own_typed HROW.out t e.symm; rw [BXX.out] at hc; injection hc with hc; injection hc with _ hc; exact absurd hc (by decide)))
      have Y4 := Aside0.mk (blk_grown B2X.out hg_ (fun e => by obtain ⟨cs, hc⟩ := own_typed HROW.out t2 e.symm; rw [B2X.out] at hc; injection hc with hc; injection hc with _ hc; exact absurd hc (by decide)))
      have HB5 := Aside0.mk (show Below w.heap.size w w4 from hb_)
      clear ho_ hb_ hg_ hat_ HND
      refine hK.out _ _ ⟨(blk_cell X4.out 2).trans rfl, pw_cell_below HB5.out W0.out.1, pw_cell_below HB5.out W0.out.2⟩ (fun hHeld => ?_)
      clear hK K
      refine pure_ (i := 19) (N := (some 3)) (v := ?_) (a' := ?_) #[true, true, true, true, true, true, true, true, true, true, true, true, true, true, true, true, true, true, true, true] rfl rfl (by kernel_rfl) (fun _ _ _ h => h) (Or.inl ⟨by rfl, ?_⟩) ?_ ?_
      rotate_left
      · intro w'
        go_simp
        with_reducible rfl
      rotate_left
      · simp only [Act.put, List.setIfInBounds_toArray, List.set_cons_zero, List.set_cons_succ, i64_w, i32_w]
        rfl
      refine done_ (by kernel_rfl) ?_
      go_wp2
      go_roundg (l.length - (x + 1).toNat)
      case measure => go_light; have := HX.out; omega
      case rel =>
        go_light
        have e1 : (x + 1).toNat = x.toNat + 1 := by omega
        exact ⟨x + 1, _, _, by simp [w1_], rfl, ⟨by omega, by have := HX.out; omega⟩, ⟨by rw [e1]; exact H4.out⟩, X4, Y4, HB4⟩
    case neg =>
      have hx : x.toNat = l.length := by have := HX.out; omega
      rw [hx] at H
      have H1 := H
      clear H HX hx
      go_wp2
      go_loopg [3, 6] 2 (fun g_ s3 s6 wq => ∃ (y : Int) (nv : Value) (K : List (Nat × Nat)), s6 = .int .i64 y ∧ s3 = nv ∧ Aside0 (0 ≤ y ∧ (g_ : Int) = 2 - y) ∧ Aside0 (LentAt w.heap.size wq nv l l.length y.toNat K) ∧ Aside0 (wq.heap[t]? = some (.cells #[.int .i64 st, .int .i64 n, .slice A l.length c, .int .i64 rt] 24 (0, 0))) ∧ Aside0 (wq.heap[t2]? = some (.cells #[.int .i64 0, .int .i64 0, .slice none 0 0, .int .i64 0] 24 (0, 0))) ∧ Aside0 (Below w.heap.size w wq))
      case atStart => exact ⟨0, _, _, rfl, rfl, ⟨by omega, by omega⟩, H1, BX, B2, HB⟩
      case round =>
        clear H1 gc0 gc1 gc2 gc3
        obtain ⟨y, nv2, K1, rfl, rfl, HY, H, BX, B2, HB⟩ := hrel
        obtain ⟨An, cn, rfl⟩ := own_slice H.out.row
        by_cases q2 : y < 2
        case pos =>
          have p0 : 0 ≤ y := HY.out.1
          have w1_ : wrap64 (y + 1) = y + 1 := by unfold wrap64; omega
          go_wp2_with (first
            | ((with_reducible refine gate_builtin (b := .append) (xs := #[.tmp 48, .tmp 50]) rfl ?_); at_builtin; refine print_append_cells (w0 := w) (W := wr) w.heap.size rfl (.tmp 48) (.tmp 50) 22 49 (.agg #[.int .u8 0, .slice none 0 0]) 2 32 rfl Tryd.underlying22 (by kernel_rfl) rfl (by decide) (by decide) (.slice An (l.length + y.toNat) cn) (l.length + y.toNat) (lcells l K1 l.length ++ marks2 y.toNat) [.int .u8 77, .slice none 0 0] rfl rfl rfl (by intro u hu; simp at hu; rcases hu with hu | hu; (rw [hu]; rfl); (rw [hu]; rfl)) H.out.row HB.out HB.out.size (by have := HL.out.1; omega) ?_; intro v1_ w4 ho_ hb_ hg_ hat_; have H4 := Aside0.mk (H.out.mark hg_ ho_); have HB4 := Aside0.mk hb_; have X4 := Aside0.mk (blk_grown BX.out hg_ (fun e => by obtain ⟨cs, hc⟩ := own_typed H.out.row t e.symm; rw [BX.out] at hc; injection hc with hc; injection hc with _ hc; exact absurd hc (by decide))); have Y4 := Aside0.mk (blk_grown B2.out hg_ (fun e => by obtain ⟨cs, hc⟩ := own_typed H.out.row t2 e.symm; rw [B2.out] at hc; injection hc with hc; injection hc with _ hc; exact absurd hc (by decide))); clear ho_ hb_ hg_ hat_))
          go_roundg (2 - (y + 1).toNat)
          case measure => go_light; have := HY.out; omega
          case rel =>
            go_light
            have e1 : (y + 1).toNat = y.toNat + 1 := by omega
            exact ⟨y + 1, _, _, by simp [w1_], rfl, ⟨by omega, by have := HY.out; omega⟩, ⟨by rw [e1]; exact H4.out⟩, X4, Y4, HB4⟩
        case neg =>
          have hy : y.toNat = 2 := by have := HY.out; omega
          rw [hy] at H
          rw [hy]
          have hcap := own_cap H.out.row
          obtain ⟨gn, rfl⟩ : ∃ gn, An = some ⟨gn, 0, none⟩ := by
            rcases H.out.row.2 with ⟨h, h2⟩ | ⟨q, cp, cur, h, _⟩
            · omega
            · cases h
              exact ⟨q, rfl⟩
          obtain ⟨gc0, gc1, gc2, gc3⟩ := four BX.out
          obtain ⟨hc0, hc1, hc2, hc3⟩ := four B2.out
          have z0_ := blk_frozen BX.out 0
          have z1_ := blk_frozen BX.out 1
          have z2_ := blk_frozen BX.out 2
          have z3_ := blk_frozen BX.out 3
          have f0_ := blk_frozen B2.out 0
          have f1_ := blk_frozen B2.out 1
          have f2_ := blk_frozen B2.out 2
          have f3_ := blk_frozen B2.out 3
          have cap_ : ((l.length : Nat) : Int) ≤ (cn : Int) := by omega
          go_upto_region 14 with (first
            | ((with_reducible refine gate_store (t := 22) (p := 57) rfl ?_); refine store_event (t := 22) (p := 57) (v := ?vo_) (w1 := wr.setCell ⟨t, 2, none⟩ (.slice (some ⟨gn, 0, none⟩) l.length cn)) ?hgs ?hos ?hns ?hrs ?_; (case hos => rfl); (case hgs => rfl); (case hns => rfl); (case hrs => first | (go_simp; done) | (go_simp; rfl)); rintro W7 rfl; have HB1 := Aside0.mk (below_set (g := t) (j := 2) (v := .slice (some ⟨gn, 0, none⟩) l.length cn) HB.out GE1.out); have H1 := Aside0.mk (H.out.set (j := 2) (v := .slice (some ⟨gn, 0, none⟩) l.length cn) BX.out (by decide) (by decide)); have X1 := Aside0.mk (blk_put BX.out 2 (.slice (some ⟨gn, 0, none⟩) l.length cn) rfl); have Y1 := Aside0.mk (blk_far B2.out (p := ⟨t, 2, none⟩) (Ne.symm NE.out) (.slice (some ⟨gn, 0, none⟩) l.length cn)); clear H BX B2 HB gc0 gc1 gc2 gc3 hc0 hc1 hc2 hc3 z0_ z1_ z2_ z3_ f0_ f1_ f2_ f3_))
          generalize wr.setCell ⟨t, 2, none⟩ (.slice (some ⟨gn, 0, none⟩) l.length cn) = W6 at *
          obtain ⟨gc0, gc1, gc2, gc3⟩ := four X1.out
          obtain ⟨hc0, hc1, hc2, hc3⟩ := four Y1.out
          have f0_ := blk_frozen Y1.out 0
          have f1_ := blk_frozen Y1.out 1
          have f2_ := blk_frozen Y1.out 2
          have f3_ := blk_frozen Y1.out 3
          go_wp2
          refine bodyPost_ret (results_cell_row rfl _ _ _ 24 #[.int .i64 st, .int .i64 n, .slice (some ⟨gn, 0, none⟩) l.length cn, .int .i64 rt] (0, 0) _ rfl ?_ hu rfl (by kernel_rfl)) rfl ⟨gn, cn, K1, rfl, ?_, ?_⟩
          · exact blk_put (blk_put (blk_put (blk_put Y1.out 0 _ rfl) 1 _ rfl) 2 _ rfl) 3 _ rfl
          · have b0 := blk_put Y1.out 0 (.int .i64 st) rfl
            have b1 := blk_put b0 1 (.int .i64 n) rfl
            have b2 := blk_put b1 2 (.slice (some ⟨gn, 0, none⟩) l.length cn) rfl
            exact (((H1.out.set Y1.out (by decide) (by decide)).set b0 (by decide) (by decide)).set b1 (by decide) (by decide)).set b2 (by decide) (by decide)
          · exact below_set (below_set (below_set (below_set HB1.out GE2.out) GE2.out) GE2.out) GE2.out
end Go.Proofs.YtbnonnogkgbpiaaDoor.LentT
end
section
namespace Go.Proofs.YtbnonnogkgbpiaaDoor.LentT
open Go Go.RowKit Go.Proofs.YtbnonnogkgbpiaaDoorW.PrintWords Go.Proofs.YtbnonnogkgbpiaaDoorW.PrintLast Go.Proofs.YtbnonnogkgbpiaaDoorW.PrintMore Go.Proofs.YtbnonnogkgbpiaaDoor.PT Go.Proofs.YtbnonnogkgbpiaaDoor.TreePlain Go.Proofs.YtbnonnogkgbpiaaDoor.TreeText
set_option linter.unusedVariables false
set_option linter.unusedSimpArgs false
section
variable {B : Nat} {W : World} {nv : Value} {l : List S49} {m : Nat} {K : List (Nat × Nat)}
end
def Kq (W W' : World) : Prop := ∀ (k : Nat) (cs : Array Value) (ty : TypeId) (fz : Nat × Nat), W.heap[k]? = some (.cells cs ty fz) → ty ≠ 49 → ty ≠ 3 → W'.heap[k]? = some (.cells cs ty fz)
theorem Kq.refl (W : World) : Kq W W := fun _ _ _ _ h _ _ => h
theorem Kq.trans {W W1 W2 : World} (h : Kq W W1) (g : Kq W1 W2) : Kq W W2 := fun k cs ty fz hk a b => g k cs ty fz (h k cs ty fz hk a b) a b
theorem Kq.below {W W' : World} (hb : Below W.heap.size W W') : Kq W W' := fun k cs ty fz h _ _ => (hb.block k (blk_lt h)).trans h
theorem Kq.set {W : World} {p j : Nat} {v : Value} {cs : Array Value} {t : TypeId} {f : Nat × Nat} (h : W.heap[p]? = some (.cells cs t f)) (ht : t = 49 ∨ t = 3) : Kq W (W.setCell ⟨p, j, none⟩ v) := by
  intro q cs' t' f' hk a b
  refine (Below.heap_setCell _ ⟨p, j, none⟩ _ _ (fun e => ?_)).trans hk
  rw [show q = p from e, h] at hk
  injection hk with hk
  injection hk with _ hk
  subst hk
  rcases ht with h0 | h0
  · exact a h0
  · exact b h0
theorem Kq.box {W W' : World} (h : Kq W W') {k : Nat} {cs : Array Value} {ty : TypeId} {fz : Nat × Nat} (hx : W.heap[k]? = some (.cells cs ty fz)) (h1 : ty ≠ 49) (h2 : ty ≠ 3) : W'.heap[k]? = some (.cells cs ty fz) := h k cs ty fz hx h1 h2
end Go.Proofs.YtbnonnogkgbpiaaDoor.LentT
end
section
namespace Go.Proofs.YtbnonnogkgbpiaaDoor.TreePlain
open Go Go.RowKit Go.Proofs.YtbnonnogkgbpiaaDoorW.PrintWords Go.Proofs.YtbnonnogkgbpiaaDoorW.PrintLast Go.Proofs.YtbnonnogkgbpiaaDoorW.PrintMore Go.Proofs.YtbnonnogkgbpiaaDoor.PT
set_option linter.unusedVariables false
set_option linter.unusedSimpArgs false
theorem leo_add {α : Type} (f : Nat → Option α) (hm : ∀ m, LeO (f m) (f (m + 1))) (k : Nat) (r : α) (h : f k = some r) : ∀ j, f (k + j) = some r
  | 0 => h
  | j + 1 => hm (k + j) r (leo_add f hm k r h j)
instance eqS49 : DecidableEq S49 := fun a b => decidable_of_iff (a.f0 = b.f0 ∧ a.f1 = b.f1) ⟨fun h => by cases a; cases b; simp at h; simp [h], fun h => by rw [h]; exact ⟨rfl, rfl⟩⟩
theorem rd_nat {l : List Int} {i : Nat} (h : i < l.length) : rd l (i : Int) = l[i] := by
  unfold rd
  rw [Int.toNat_natCast, List.getD_eq_getElem?_getD, List.getElem?_eq_getElem h]
  rfl
theorem l0_ints (a b : List Int) (hl : a.length = b.length) (hs : a.length ≤ 4611686018427387904) : ∀ (d i : Nat), i + d = a.length → (∀ j (h : j < a.length), j < i → a[j] = b[j]'(hl ▸ h)) → ∃ k, vivariumref11_ints.l0 k a b i = some (decide (a = b)) := by
  intro d
  induction d with
  | zero =>
    intro i hi hall
    refine ⟨0 + 1, ?_⟩
    rw [vivariumref11_ints.l0, if_neg (by omega), decide_eq_true (List.ext_getElem hl (fun j h1 h2 => hall j h1 (by omega)))]
  | succ d ih =>
    intro i hi hall
    have hlt : i < a.length := by omega
    have hlt2 : i < b.length := by omega
    have q1 : (i : Int) < a.length := by omega
    have q2 : (i : Int) < b.length := by omega
    have q3 : (0 : Int) ≤ i := by omega
    have e1 := rd_nat hlt
    have e2 := rd_nat hlt2
    have hw : wrap64 ((i : Int) + 1) = ((i + 1 : Nat) : Int) := by unfold wrap64; omega
    by_cases c : a[i] = b[i]
    · obtain ⟨k, hk⟩ := ih (i + 1) (by omega) (fun j h hj => by
        rcases Nat.lt_or_ge j i with h' | h'
        · exact hall j h h'
        · have : j = i := by omega
          subst this
          exact c)
      refine ⟨k + 1, ?_⟩
      rw [vivariumref11_ints.l0, if_pos q1, if_pos q3, if_pos q2, e1, e2, if_pos c, hw]
      exact hk
    · refine ⟨0 + 1, ?_⟩
      rw [vivariumref11_ints.l0, if_pos q1, if_pos q3, if_pos q2, e1, e2, if_neg c, decide_eq_false (fun e => by subst e; exact c rfl)]
theorem ints_is (a b : List Int) (hs : a.length ≤ 4611686018427387904) : ∃ k, vivariumref11_ints.f k a b = some (decide (a = b)) := by
  by_cases hl : a.length = b.length
  · obtain ⟨k, hk⟩ := l0_ints a b hl hs a.length 0 (by omega) (fun j h hj => by omega)
    refine ⟨k, ?_⟩
    unfold vivariumref11_ints.f
    rw [if_pos (by omega)]
    exact hk
  · refine ⟨0, ?_⟩
    unfold vivariumref11_ints.f
    rw [if_neg (by omega), decide_eq_false (fun e => hl (by rw [e]))]
def alikeP (s n : Int) (l : List S49) (r : Int) (s' n' : Int) (l' : List S49) (r' : Int) : Bool := decide (s = s' ∧ n = n' ∧ r = r' ∧ l = l')
section
variable {s n r s' n' r' : Int}
theorem rd49_nat {l : List S49} {i : Nat} (h : i < l.length) : rd_T49 l (i : Int) = l[i] := by
  unfold rd_T49
  rw [Int.toNat_natCast, List.getD_eq_getElem?_getD, List.getElem?_eq_getElem h]
  rfl
theorem l0_alike (l l' : List S49) (hl : l.length = l'.length) (hs : l.length ≤ 4611686018427387904) (hk : ∀ x ∈ l, x.f1.length ≤ 4611686018427387904) : ∀ (d i : Nat), i + d = l.length → (∀ j (h : j < l.length), j < i → l[j] = l'[j]'(hl ▸ h)) → ∃ k, vivariumref11_Alike.l0 k i s n l r s' n' l' r' = some (decide (l = l')) := by
  intro d
  induction d with
  | zero =>
    intro i hi hall
    refine ⟨0 + 1, ?_⟩
    rw [vivariumref11_Alike.l0, if_neg (by omega), decide_eq_true (List.ext_getElem hl (fun j h1 h2 => hall j h1 (by omega)))]
  | succ d ih =>
    intro i hi hall
    have hlt : i < l.length := by omega
    have hlt2 : i < l'.length := by omega
    have q1 : (i : Int) < l.length := by omega
    have q2 : (i : Int) < l'.length := by omega
    have q3 : (0 : Int) ≤ i := by omega
    have e1 := rd49_nat hlt
    have e2 := rd49_nat hlt2
    have hw : wrap64 ((i : Int) + 1) = ((i + 1 : Nat) : Int) := by unfold wrap64; omega
    by_cases c : l[i].f0 = l'[i].f0
    · obtain ⟨k1, hk1⟩ := ints_is l[i].f1 l'[i].f1 (hk _ (List.getElem_mem _))
      by_cases c2 : l[i].f1 = l'[i].f1
      · obtain ⟨k, hk⟩ := ih (i + 1) (by omega) (fun j h hj => by
          rcases Nat.lt_or_ge j i with h' | h'
          · exact hall j h h'
          · have : j = i := by omega
            subst this
            generalize l[j] = x at c c2
            generalize l'[j] = y at c c2
            obtain ⟨x0, x1⟩ := x
            obtain ⟨y0, y1⟩ := y
            simp at c c2
            rw [c, c2])
        refine ⟨(k1 + k) + 1, ?_⟩
        have hka := leo_add (fun m => vivariumref11_ints.f m l[i].f1 l'[i].f1) (fun m => vivariumref11_ints.mono _ _ m) k1 _ hk1 k
        have hkb := leo_add (fun m => vivariumref11_Alike.l0 m ((i + 1 : Nat) : Int) s n l r s' n' l' r') (fun m => (vivariumref11_Alike.mono_l m).2 _ _ _ _ _ _ _ _ _) k _ hk k1
        rw [vivariumref11_Alike.l0, if_pos q1, if_pos q3, if_pos q2, e1, e2, if_pos c]
        rw [hka, Option.bind_some, if_pos (by rw [decide_eq_true c2]), hw, Nat.add_comm k1 k]
        exact hkb
      · refine ⟨k1 + 1, ?_⟩
        rw [vivariumref11_Alike.l0, if_pos q1, if_pos q3, if_pos q2, e1, e2, if_pos c, hk1, Option.bind_some, if_neg (by rw [decide_eq_false c2]; decide), decide_eq_false (fun e => by subst e; exact c2 rfl)]
    · refine ⟨0 + 1, ?_⟩
      rw [vivariumref11_Alike.l0, if_pos q1, if_pos q3, if_pos q2, e1, e2, if_neg c, decide_eq_false (fun e => by subst e; exact c rfl)]
theorem alike_is (l l' : List S49) (hs : l.length ≤ 4611686018427387904) (hk : ∀ x ∈ l, x.f1.length ≤ 4611686018427387904) : ∃ k, vivariumref11_Alike.f k s n l r s' n' l' r' = some (alikeP s n l r s' n' l' r') := by
  unfold alikeP
  have j0 : ∀ k, vivariumref11_Alike.j0 (k + 1) true s n l r s' n' l' r' = some false := fun k => by rw [vivariumref11_Alike.j0, if_pos rfl]
  by_cases c1 : s = s'
  · by_cases c2 : n = n'
    · by_cases c3 : r = r'
      · by_cases hl : l.length = l'.length
        · obtain ⟨k, hk⟩ := l0_alike (s := s) (n := n) (r := r) (s' := s') (n' := n') (r' := r') l l' hl hs hk l.length 0 (by omega) (fun j h hj => by omega)
          refine ⟨k + 1, ?_⟩
          unfold vivariumref11_Alike.f
          rw [if_pos c1, if_pos c2, if_pos c3, vivariumref11_Alike.j0, if_neg (by simp [hl])]
          rw [show ((0 : Nat) : Int) = 0 from rfl] at hk
          rw [hk]
          congr 1
          simp [c1, c2, c3]
        · refine ⟨0 + 1, ?_⟩
          unfold vivariumref11_Alike.f
          rw [if_pos c1, if_pos c2, if_pos c3, show ((l.length : Int) != (l'.length : Int)) = true by simp; omega, j0, decide_eq_false (fun e => hl (by rw [e.2.2.2]))]
      · refine ⟨0 + 1, ?_⟩
        unfold vivariumref11_Alike.f
        rw [if_pos c1, if_pos c2, if_neg c3, j0, decide_eq_false (fun e => c3 e.2.2.1)]
    · refine ⟨0 + 1, ?_⟩
      unfold vivariumref11_Alike.f
      rw [if_pos c1, if_neg c2, j0, decide_eq_false (fun e => c2 e.2.1)]
  · refine ⟨0 + 1, ?_⟩
    unfold vivariumref11_Alike.f
    rw [if_neg c1, j0, decide_eq_false (fun e => c1 e.1)]
end
end Go.Proofs.YtbnonnogkgbpiaaDoor.TreePlain
end
section
namespace Go.Proofs.YtbnonnogkgbpiaaDoor.LentT
open Go Go.RowKit Go.Proofs.YtbnonnogkgbpiaaDoorW.PrintWords Go.Proofs.YtbnonnogkgbpiaaDoorW.PrintLast Go.Proofs.YtbnonnogkgbpiaaDoorW.PrintMore Go.Proofs.YtbnonnogkgbpiaaDoor.PT Go.Proofs.YtbnonnogkgbpiaaDoor.TreePlain Go.Proofs.YtbnonnogkgbpiaaDoor.TreeText
set_option linter.unusedVariables false
set_option linter.unusedSimpArgs false
section
variable {B : Nat} {W : World} {l : List S49} {K : List (Nat × Nat)} {gn cn : Nat}
theorem LentAt.marks (h : LentAt B W (.slice (some ⟨gn, 0, none⟩) (l.length + 2) cn) l l.length 2 K) : W.cell? ⟨gn, l.length * 2, none⟩ = some (.int .u8 77) ∧ W.cell? ⟨gn, (l.length + 1) * 2, none⟩ = some (.int .u8 77) := by
  have hl := lcells_len l K l.length
  have h1 := h.row.cellAt (l.length * 2) (by omega)
  have h2 := h.row.cellAt ((l.length + 1) * 2) (by omega)
  rw [List.getElem?_append_right (by omega), hl] at h1 h2
  rw [show l.length * 2 - 2 * l.length = 0 by omega] at h1
  rw [show (l.length + 1) * 2 - 2 * l.length = 2 by omega] at h2
  exact ⟨h1, h2⟩
theorem LentAt.node (h : LentAt B W (.slice (some ⟨gn, 0, none⟩) (l.length + 2) cn) l l.length 2 K) (j : Nat) (hj : j < l.length) : ∃ g c, K[j]? = some (g, c) ∧ W.cell? ⟨gn, j * 2, none⟩ = some (.int .u8 (nd l j).f0) ∧ W.cell? ⟨gn, j * 2 + 1, none⟩ = some (.slice (some ⟨g, 0, none⟩) (nd l j).f1.length c) ∧ (nd l j).f1.length + 2 ≤ c ∧ W.cell? ⟨g, (nd l j).f1.length, none⟩ = some (.int .i64 (-7)) ∧ W.cell? ⟨g, (nd l j).f1.length + 1, none⟩ = some (.int .i64 (-8)) := by
  have hjK : j < K.length := by rw [h.len]; exact hj
  obtain ⟨⟨g, c⟩, hk⟩ : ∃ p, K[j]? = some p := ⟨_, List.getElem?_eq_getElem hjK⟩
  have hkd : K.getD j (0, 0) = (g, c) := by rw [List.getD_eq_getElem?_getD, hk]; rfl
  have ho := h.kid j _ _ hk
  obtain ⟨q1, q2⟩ := lcells_at l K l.length j (marks2 2) hj
  rw [hkd] at q2
  have c1 := h.row.cellAt (2 * j) (by omega)
  have c2 := h.row.cellAt (2 * j + 1) (by omega)
  rw [q1] at c1
  rw [q2] at c2
  have d1 := ho.cellAt (nd l j).f1.length (by omega)
  have d2 := ho.cellAt ((nd l j).f1.length + 1) (by omega)
  refine ⟨g, c, hk, by rw [Nat.mul_comm]; exact c1, by rw [Nat.mul_comm]; exact c2, own_cap ho, ?_, ?_⟩
  · rw [d1]
    simp [nums]
  · rw [d2]
    simp [nums]
end
theorem wrap_small (x : Int) (h0 : 0 ≤ x) (h1 : x ≤ 4000000) : wrap64 x = x := by
  unfold wrap64
  omega
theorem alike_same (st n : Int) (l : List S49) (rt : Int) (hs : l.length ≤ 2000000) (hk : ∀ j, (nd l j).f1.length ≤ 2000000) : ∃ k, vivariumref11_Alike.f k st n l rt st n l rt = some true := by
  obtain ⟨k, hk⟩ := alike_is (s := st) (n := n) (r := rt) (s' := st) (n' := n) (r' := rt) l l (by omega) (fun x hx => by
    obtain ⟨j, hj, rfl⟩ := List.mem_iff_getElem.1 hx
    have := hk j
    unfold nd at this
    rw [List.getD_eq_getElem?_getD, List.getElem?_eq_getElem hj] at this
    simp at this
    omega)
  exact ⟨k, by rw [hk]; simp [alikeP]⟩
set_option maxHeartbeats 16000000 in
set_option maxRecDepth 100000 in
theorem kept_calls (B : Nat) (st n : Int) (A : Option Addr) (c : Nat) (l : List S49) (rt : Int) (gn cn : Nat) (K : List (Nat × Nat)) (w : World) (hL : LentAt B w (.slice (some ⟨gn, 0, none⟩) (l.length + 2) cn) l l.length 2 K) (hr : Kd.C k49 w A l.length l) (hc : l.length ≤ c) (hl : l.length ≤ 2000000) (hk : ∀ j, (nd l j).f1.length ≤ 2000000) :
    Calls Tryd.prog 37 #[.agg #[.int .i64 st, .int .i64 n, .slice (some ⟨gn, 0, none⟩) l.length cn, .int .i64 rt], .agg #[.int .i64 st, .int .i64 n, .slice A l.length c, .int .i64 rt]] w fun e w' => e = .returned (.bool true) ∧ Below w.heap.size w w' := by
  have hu := Tryd.underlying24
  obtain ⟨ka, hka⟩ := alike_same st n l rt hl hk
  have hcap : l.length + 2 ≤ cn := own_cap hL.row
  have AK := Aside0.mk (fun (W : World) (hW : Below w.heap.size w W) => vivariumref11_Alike.calls ka st n (some ⟨gn, 0, none⟩) cn l rt st n A c l rt true W (Kd.C_below (hL.reads (by omega)) hW) (by omega) (Kd.C_below hr hW) hc hka)
  have HL := Aside0.mk hL
  have HR := Aside0.mk hr
  have HC := Aside0.mk hc
  have HS := Aside0.mk (And.intro hl hk)
  have HB := Aside0.mk (Below.refl w.heap.size w)
  have cap_ : ((l.length : Nat) : Int) + 2 ≤ (cn : Int) := by omega
  have w0_ := wrap_small ((l.length : Int) + 2) (by omega) (by omega)
  have w00_ := wrap_small ((l.length : Int) + 1) (by omega) (by omega)
  clear hL hr hc hl hk hka hcap
  go_enter Tryd.func37, Tryd.ntmps37
  go_upto_region 6 with (first
    | ((with_reducible refine gate_dst (N := 2) rfl ?_); refine box_event ?hg (N := 2) ?hd (cs := #[.int .i64 st, .int .i64 n, .slice (some ⟨gn, 0, none⟩) l.length cn, .int .i64 rt]) (t := 24) ?hr ?_; (case hd => rfl); (case hg => rfl); (case hr => first | (go_simp; done) | (go_simp; rfl)); intro t hg W9 hbox hb; have n_ := below_step HB.out hb; clear HB; have HB := Aside0.mk n_; have BX := Aside0.mk hbox; clear n_ hg hbox hb)
    | ((with_reducible refine gate_dst (N := 3) rfl ?_); refine box_event ?hg2 (N := 3) ?hd2 (cs := #[.int .i64 st, .int .i64 n, .slice A l.length c, .int .i64 rt]) (t := 24) ?hr2 ?_; (case hd2 => rfl); (case hg2 => rfl); (case hr2 => first | (go_simp; done) | (go_simp; rfl)); intro t2 hg W8 hbox hb; have n_ := below_step HB.out hb; have m_ := blk_below BX.out hb; clear HB BX; have HB := Aside0.mk n_; have BX := Aside0.mk m_; have B2 := Aside0.mk hbox; obtain ⟨gc0, gc1, gc2, gc3⟩ := four m_; obtain ⟨hc0, hc1, hc2, hc3⟩ := four hbox; clear n_ m_ hg hbox hb)
    | (go_at_call 28; (with_reducible refine (AK.out _ HB.out).mono ?_); rintro e_ W7 ⟨rfl, hb⟩; have n_ := below_step HB.out hb; have m_ := blk_below BX.out hb; have p_ := blk_below B2.out hb; clear AK HB BX B2 gc0 gc1 gc2 gc3 hc0 hc1 hc2 hc3; have HB := Aside0.mk n_; have BX := Aside0.mk m_; have B2 := Aside0.mk p_; obtain ⟨gc0, gc1, gc2, gc3⟩ := four m_; obtain ⟨hc0, hc1, hc2, hc3⟩ := four p_; clear n_ m_ p_ hb))
  have hm := (HL.out.on HB.out).marks
  obtain ⟨m0_, m1_⟩ := hm
  go_wp2
  clear m0_ m1_ gc0 gc1 gc2 gc3 hc0 hc1 hc2 hc3
  go_loopg [8] l.length (fun g_ s8 wq => ∃ (x : Int), s8 = .int .i64 x ∧ Aside0 (0 ≤ x ∧ (g_ : Int) = l.length - x) ∧ Aside0 (wq.heap[t]? = some (.cells #[.int .i64 st, .int .i64 n, .slice (some ⟨gn, 0, none⟩) l.length cn, .int .i64 rt] 24 (0, 0))) ∧ Aside0 (wq.heap[t2]? = some (.cells #[.int .i64 st, .int .i64 n, .slice A l.length c, .int .i64 rt] 24 (0, 0))) ∧ Aside0 (Below w.heap.size w wq))
  case atStart => exact ⟨0, rfl, ⟨by omega, by omega⟩, BX, B2, HB⟩
  case round =>
    clear BX B2 HB
    obtain ⟨x, rfl, HX, BX, B2, HB⟩ := hrel
    obtain ⟨gc0, gc1, gc2, gc3⟩ := four BX.out
    obtain ⟨hc0, hc1, hc2, hc3⟩ := four B2.out
    by_cases q : x < (l.length : Int)
    case neg =>
      go_wp2
      go_ret
      exact ⟨rfl, HB.out⟩
    case pos =>
      have p0 : 0 ≤ x := HX.out.1
      have w1_ := wrap_small (x + 1) (by omega) (by have := HS.out.1; omega)
      obtain ⟨ad, A1, c1, rfl, k0w, k1w, hc1', hK1⟩ := at_T49 HR.out x p0 q
      have k1_ := pw_cell_below HB.out k1w
      obtain ⟨g, c2, _, e0, e1, ecap, m7, m8⟩ := (HL.out.on HB.out).node x.toNat (by omega)
      have hkl := HS.out.2 x.toNat
      rw [show rd_T49 l x = nd l x.toNat from rfl] at k1_
      generalize nd l x.toNat = X at *
      obtain ⟨s, ks⟩ := X
      dsimp only at *
      have cap2_ : ((ks.length : Nat) : Int) + 2 ≤ (c2 : Int) := by omega
      have w2_ := wrap_small ((ks.length : Int) + 2) (by clear cap2_ k1_ e0 e1 m7 m8 k0w k1w; omega) (by clear cap2_ k1_ e0 e1 m7 m8 k0w k1w; omega)
      have w3_ := wrap_small ((ks.length : Int) + 1) (by clear w2_ cap2_ k1_ e0 e1 m7 m8 k0w k1w; omega) (by clear w2_ cap2_ k1_ e0 e1 m7 m8 k0w k1w; omega)
      clear k0w k1w hc1' hK1 hkl
      go_wp2
      go_roundg (l.length - (x + 1).toNat)
      case measure => go_light; have := HX.out; omega
      case rel =>
        go_light
        exact ⟨x + 1, by simp [w1_], ⟨by omega, by have := HX.out; omega⟩, BX, B2, HB⟩
end Go.Proofs.YtbnonnogkgbpiaaDoor.LentT
end
section
namespace Go.Proofs.YtbnonnogkgbpiaaDoor.LentT
open Go Go.RowKit Go.Proofs.YtbnonnogkgbpiaaDoorW.PrintWords Go.Proofs.YtbnonnogkgbpiaaDoorW.PrintLast Go.Proofs.YtbnonnogkgbpiaaDoorW.PrintMore Go.Proofs.YtbnonnogkgbpiaaDoor.PT Go.Proofs.YtbnonnogkgbpiaaDoor.TreePlain Go.Proofs.YtbnonnogkgbpiaaDoor.TreeText
set_option linter.unusedVariables false
set_option linter.unusedSimpArgs false
end Go.Proofs.YtbnonnogkgbpiaaDoor.LentT
end
section
namespace Go.Proofs.YtbnonnogkgbpiaaDoor.PT
open Go.RowKit Go.Proofs.YtbnonnogkgbpiaaDoorW.PrintWords Go.Proofs.YtbnonnogkgbpiaaDoorW.PrintLast Go.Proofs.YtbnonnogkgbpiaaDoorW.PrintMore
attribute [local go_sem] max2_int min2_int max_two min_two max_three min_three max_four min_four   -- for this text's walks alone
set_option linter.unusedVariables false
set_option linter.unusedSimpArgs false
end Go.Proofs.YtbnonnogkgbpiaaDoor.PT
end
section
namespace Go.Proofs.YtbnonnogkgbpiaaDoor.TreePlain
open Go Go.RowKit Go.Proofs.YtbnonnogkgbpiaaDoorW.PrintWords Go.Proofs.YtbnonnogkgbpiaaDoorW.PrintLast Go.Proofs.YtbnonnogkgbpiaaDoorW.PrintMore Go.Proofs.YtbnonnogkgbpiaaDoor.PT Go.Proofs.YtbnonnogkgbpiaaDoor.TreeText
set_option linter.unusedVariables false
set_option linter.unusedSimpArgs false
section
variable {st n rt : Int} {l : List S49}
end
end Go.Proofs.YtbnonnogkgbpiaaDoor.TreePlain
end
section
namespace Go.Proofs.YtbnonnogkgbpiaaDoor.LentT
open Go Go.RowKit Go.Proofs.YtbnonnogkgbpiaaDoorW.PrintWords Go.Proofs.YtbnonnogkgbpiaaDoorW.PrintLast Go.Proofs.YtbnonnogkgbpiaaDoorW.PrintMore Go.Proofs.YtbnonnogkgbpiaaDoor.PT Go.Proofs.YtbnonnogkgbpiaaDoor.TreePlain Go.Proofs.YtbnonnogkgbpiaaDoor.TreeText
set_option linter.unusedVariables false
set_option linter.unusedSimpArgs false
structure TA (w W : World) (st n rt : Int) (A : Option Addr) (c : Nat) (l : List S49) (t2 t6 gn cn : Nat) (K : List (Nat × Nat)) (L : List S49) (k : IntKind) (ty : TypeId) (vf : Value) (ys : List Int) : Prop where
  b2 : W.heap[t2]? = some (.cells #[.int .i64 st, .int .i64 n, .slice A l.length c, .int .i64 rt] 24 (0, 0))
  b6 : W.heap[t6]? = some (.cells #[.int .i64 st, .int .i64 n, .slice (some ⟨gn, 0, none⟩) l.length cn, .int .i64 rt] 24 (0, 0))
  la : LentAt w.heap.size W (.slice (some ⟨gn, 0, none⟩) (l.length + 2) cn) L l.length 2 K
  fu : Kd.R (Kd.int k) ty W w.heap.size (fun q => w.heap.size ≤ q ∧ (∀ p ∈ K, p.1 ≠ q) ∧ q ≠ gn) vf ys
  be : Below w.heap.size w W
section
variable {w W W' : World} {st n rt : Int} {A : Option Addr} {c : Nat} {l : List S49} {t2 t6 gn cn : Nat} {K : List (Nat × Nat)} {L : List S49} {k : IntKind} {ty : TypeId} {vf : Value} {ys : List Int}
theorem TA.on (h : TA w W st n rt A c l t2 t6 gn cn K L k ty vf ys) (hb : Below W.heap.size W W') : TA w W' st n rt A c l t2 t6 gn cn K L k ty vf ys :=
  ⟨blk_below h.b2 hb, blk_below h.b6 hb, h.la.on hb, Kd.R_below h.fu hb, h.be.trans (hb.mono h.be.size)⟩
theorem TA.new (h : TA w W st n rt A c l t2 t6 gn cn K L k ty vf ys) : ∀ q, W.heap.size ≤ q → w.heap.size ≤ q ∧ (∀ p ∈ K, p.1 ≠ q) ∧ q ≠ gn := by
  intro q hq
  refine ⟨Nat.le_trans h.be.size hq, fun p hp e => ?_, fun e => ?_⟩
  · obtain ⟨j, hj, e2⟩ := List.mem_iff_getElem.1 hp
    have := own_lt (h.la.kid j p.1 p.2 (by rw [List.getElem?_eq_getElem hj, e2])) p.1 rfl
    omega
  · have := own_lt h.la.row gn rfl
    omega
theorem TA.grow {v1 : Value} {zs : List Int} (h : TA w W st n rt A c l t2 t6 gn cn K L k ty vf ys) (ht : ty ≠ 24) (ho : Kd.R (Kd.int k) ty W' w.heap.size (fun q => w.heap.size ≤ q ∧ (∀ p ∈ K, p.1 ≠ q) ∧ q ≠ gn) v1 zs) (hb : Below w.heap.size w W') (hg : W.grownBy W' vf.ownBlock) : TA w W' st n rt A c l t2 t6 gn cn K L k ty v1 zs := by
  have hok := h.fu.1
  refine ⟨blk_grown h.b2 hg (fun e => ?_), blk_grown h.b6 hg (fun e => ?_), h.la.move (fun q hq => ?_) (fun p hp => ?_), ho, hb⟩
  · obtain ⟨cs, hc⟩ := Kd.R_typed h.fu t2 e.symm
    rw [h.b2] at hc
    injection hc with hc
    injection hc with _ hc
    exact ht hc.symm
  · obtain ⟨cs, hc⟩ := Kd.R_typed h.fu t6 e.symm
    rw [h.b6] at hc
    injection hc with hc
    injection hc with _ hc
    exact ht hc.symm
  · obtain rfl : gn = q := by simpa [Value.ownBlock] using hq
    exact hg.block gn (own_lt h.la.row gn rfl) (fun e => (hok gn e.symm).2.2 rfl)
  · obtain ⟨j, hj, e2⟩ := List.mem_iff_getElem.1 hp
    exact hg.block p.1 (own_lt (h.la.kid j p.1 p.2 (by rw [List.getElem?_eq_getElem hj, e2])) p.1 rfl) (fun e => (hok p.1 e.symm).2.1 p hp rfl)
end
theorem take_app (xs ys : List Int) : (xs ++ ys).take xs.length = xs := List.take_left' rfl
theorem TA.front {w W : World} {st n rt : Int} {A : Option Addr} {c : Nat} {l : List S49} {t2 t6 gn cn : Nat} {K : List (Nat × Nat)} {L : List S49} {k : IntKind} {ty : TypeId} {gf cf m : Nat} {xs ys : List Int} (h : TA w W st n rt A c l t2 t6 gn cn K L k ty (.slice (some ⟨gf, 0, none⟩) m cf) (xs ++ ys)) : Kd.C (Kd.int k) W (some ⟨gf, 0, none⟩) xs.length xs ∧ xs.length ≤ cf := by
  have h1 := Kd.R_take h.fu (m := xs.length) (by simp)
  rw [take_app] at h1
  have h2 := Kd.R_reads' h1
  exact ⟨h2.2.2, h2.2.1⟩
theorem TA.cells {w W : World} {st n rt : Int} {A : Option Addr} {c : Nat} {l : List S49} {t2 t6 gn cn : Nat} {K : List (Nat × Nat)} {L : List S49} {k : IntKind} {ty : TypeId} {vf : Value} {ys : List Int} (h : TA w W st n rt A c l t2 t6 gn cn K L k ty vf ys) : (W.cell? ⟨t2, 0, none⟩ = some (.int .i64 st) ∧ W.cell? ⟨t2, 1, none⟩ = some (.int .i64 n) ∧ W.cell? ⟨t2, 2, none⟩ = some (.slice A l.length c) ∧ W.cell? ⟨t2, 3, none⟩ = some (.int .i64 rt)) ∧ (W.cell? ⟨t6, 0, none⟩ = some (.int .i64 st) ∧ W.cell? ⟨t6, 1, none⟩ = some (.int .i64 n) ∧ W.cell? ⟨t6, 2, none⟩ = some (.slice (some ⟨gn, 0, none⟩) l.length cn) ∧ W.cell? ⟨t6, 3, none⟩ = some (.int .i64 rt)) := ⟨four h.b2, four h.b6⟩
theorem rd_app (xs : List Int) (a b : Int) : rd (xs ++ [a, b]) xs.length = a ∧ rd (xs ++ [a, b]) ((xs.length : Int) + 1) = b := by
  constructor
  · unfold rd
    rw [Int.toNat_natCast, List.getD_eq_getElem?_getD, List.getElem?_append_right (Nat.le_refl _), Nat.sub_self]
    rfl
  · unfold rd
    rw [show ((xs.length : Int) + 1).toNat = xs.length + 1 by omega, List.getD_eq_getElem?_getD, List.getElem?_append_right (by omega), show xs.length + 1 - xs.length = 1 by omega]
    rfl
theorem TA.marks {w W : World} {st n rt : Int} {A : Option Addr} {c : Nat} {l : List S49} {t2 t6 gn cn : Nat} {K : List (Nat × Nat)} {L : List S49} {k : IntKind} {ty : TypeId} {gf cf m : Nat} {xs : List Int} {a b : Int} (h : TA w W st n rt A c l t2 t6 gn cn K L k ty (.slice (some ⟨gf, 0, none⟩) m cf) (xs ++ [a, b])) : W.cell? ⟨gf, xs.length, none⟩ = some (.int k a) ∧ W.cell? ⟨gf, xs.length + 1, none⟩ = some (.int k b) := by
  have h2 := (Kd.R_reads' h.fu).2.2
  obtain ⟨e1, e2⟩ := rd_app xs a b
  obtain ⟨ad, ef, u0⟩ := Kd.at_int h2 (xs.length : Int) (by omega) (by simp; omega)
  obtain ⟨ad', ef', u1⟩ := Kd.at_int h2 ((xs.length : Int) + 1) (by omega) (by simp)
  obtain rfl : (⟨gf, 0, none⟩ : Addr) = ad := Option.some.inj ef
  obtain rfl : (⟨gf, 0, none⟩ : Addr) = ad' := Option.some.inj ef'
  rw [addr_add, e1, Int.toNat_natCast] at u0
  rw [addr_add, e2, show ((xs.length : Int) + 1).toNat = xs.length + 1 by omega] at u1
  exact ⟨u0, u1⟩
end Go.Proofs.YtbnonnogkgbpiaaDoor.LentT
end
section
namespace Go.Proofs.YtbnonnogkgbpiaaDoor.OwnZ
open Go Go.RowKit Go.Proofs.YtbnonnogkgbpiaaDoorW.PrintWords
set_option linter.unusedVariables false
set_option linter.unusedSimpArgs false
theorem storeZ (g : Nat) (t : TypeId) (fz : Nat × Nat) : ∀ (vs : List Value) (o i : Nat) (cur : Array Value) (w : World), w.heap[g]? = some (.cells cur t fz) → (fz = (0, 0) ∨ cur.size ≤ fz.1) → o + i + vs.length ≤ cur.size → (∀ v ∈ vs, v.oneCell' = true) →
    (storeCells ⟨g, o, none⟩ vs i).run Tryd.prog w = .ok () (w.setRow g (cur.toList.take (o + i) ++ vs ++ cur.toList.drop (o + i + vs.length)).toArray)
  | [], o, i, cur, w, hg, _, _, _ => by
    have e : (cur.toList.take (o + i) ++ ([] : List Value) ++ cur.toList.drop (o + i + 0)).toArray = cur := by simp
    show Result.ok () w = _
    rw [show ([] : List Value).length = 0 from rfl, e, setRow_self w g cur t fz hg]
  | v :: rest, o, i, cur, w, hg, hfz, hl, h1 => by
    have hlen : (v :: rest).length = rest.length + 1 := rfl
    have hi : o + i < cur.size := by omega
    have hadd : (⟨g, o, none⟩ : Addr).add i = ⟨g, o + i, none⟩ := by
      unfold Addr.add
      split <;> simp_all
    have hfro : w.frozen? ⟨g, o + i, none⟩ = false := by
      obtain ⟨lo, up⟩ := fz
      simp only [World.frozen?, hg, Bool.and_eq_false_iff, decide_eq_false_iff_not]
      rcases hfz with h | h
      · injection h with h2 h3
        right
        omega
      · left
        have : cur.size ≤ lo := h
        omega
    have hcell : w.cell? ⟨g, o + i, none⟩ = some cur[o + i] := by simp [World.cell?, hg, hi]
    have hst : (store ((⟨g, o, none⟩ : Addr).add i) v).run Tryd.prog w = .ok () (w.setRow g (cur.setIfInBounds (o + i) v)) := by
      rw [hadd, run_store Tryd.prog w _ v _ (h1 v (List.mem_cons_self ..)), hcell]
      simp [hfro, setCell_eq_setRow w g (o + i) cur t fz v hg]
    have hsz : (cur.setIfInBounds (o + i) v).size = cur.size := by simp
    have ih := storeZ g t fz rest o (i + 1) (cur.setIfInBounds (o + i) v) (w.setRow g (cur.setIfInBounds (o + i) v)) (setRow_heap w g cur _ t _ hg) (by rw [hsz]; exact hfz) (by rw [hsz]; omega) (fun x hx => h1 x (List.mem_cons_of_mem _ hx))
    have e := list_seg_step cur.toList (o + i) v rest (by rw [Array.length_toList]; omega)
    simp only [storeCells, Sem.run_bind, hst, Result.andThen_ok, ih, setRow_setRow]
    congr 3
    simpa [Array.toList_setIfInBounds, Nat.add_assoc] using e
def OwnB (w : World) (B : Nat) (v : Value) (l : List UInt8) : Prop :=
  ∃ g cap cur fz, v = .slice (some ⟨g, 0, none⟩) l.length cap ∧ B ≤ g ∧ w.heap[g]? = some (.cells cur 5 fz) ∧ (fz = (0, 0) ∨ cap ≤ fz.1) ∧ l.length ≤ cap ∧ cap ≤ maxLen ∧ cur.size = cap ∧ cur.toList.take l.length = Lib.byteCells l
section
variable {w w' : World} {B : Nat} {v : Value} {l : List UInt8}
theorem OwnB.on (h : OwnB w B v l) (hb : Below w.heap.size w w') : OwnB w' B v l := by
  obtain ⟨g, cap, cur, fz, h1, h2, h3, h4⟩ := h
  have hlt : g < w.heap.size := by
    rcases Nat.lt_or_ge g w.heap.size with h' | h'
    · exact h'
    · simp [Array.getElem?_eq_none h'] at h3
  exact ⟨g, cap, cur, fz, h1, h2, (hb.block g hlt).trans h3, h4⟩
theorem OwnB.of_string (w : World) (B : Nat) (hB : B ≤ w.heap.size) (s : ByteArray) (hs : s.size ≤ 1000000000) : OwnB (Lib.bytesWorld w 5 s) B (.slice (some ⟨w.heap.size, 0, none⟩) s.size (grownCap w s.size 0 5)) s.data.toList := by
  have hge := grownCap_ge w s.size 0 5
  have hm := grownCap_le_maxLen w s.size 0 5 (by unfold maxLen; omega)
  have hsz : (Lib.bytesCells w 5 s).size = grownCap w s.size 0 5 := by
    simp only [Lib.bytesCells, Array.size_append, Array.size_map, Array.size_replicate]
    have : s.data.size = s.size := rfl
    omega
  have hl : s.data.toList.length = s.size := by simp [← ByteArray.size_data]
  refine ⟨w.heap.size, grownCap w s.size 0 5, Lib.bytesCells w 5 s, _, by rw [hl], hB, Lib.bytesWorld_at_new w _ s, .inr (by show _ ≤ (Lib.bytesCells w 5 s).size; rw [hsz]; exact Nat.le_refl _), by rw [hl]; exact hge, hm, hsz, ?_⟩
  rw [hl]
  simp only [Lib.bytesCells, Array.toList_append]
  rw [List.take_left' (by simp [← ByteArray.size_data])]
  simp [Lib.byteCells]
theorem OwnB.cells (h : OwnB w B v l) : ∃ g cap, v = .slice (some ⟨g, 0, none⟩) l.length cap ∧ ∀ j u, (Lib.byteCells l)[j]? = some u → w.cell? ⟨g, j, none⟩ = some u := by
  obtain ⟨g, cap, cur, fz, h1, h2, h3, h4, h5, h6, h7, h8⟩ := h
  refine ⟨g, cap, h1, fun j u hj => ?_⟩
  have hj1 : j < l.length := by
    have := (List.getElem?_eq_some_iff.1 hj).1
    rwa [Lib.byteCells_length] at this
  have hj2 : j < cur.size := by omega
  rw [← h8, List.getElem?_take_of_lt hj1] at hj
  simp only [World.cell?, h3]
  rw [← Array.getElem?_toList]
  exact hj
theorem OwnB.grown (w : World) (B : Nat) (hB : B ≤ w.heap.size) (l : List UInt8) (n : Nat) (hn : l.length = n) (c : Nat) (hc : n ≤ c) (hm : c ≤ maxLen) (cs : Array Value) (hcs : cs.size = c) (ht : cs.toList.take n = Lib.byteCells l) : OwnB (w.drew.alloc (.cells cs 5)) B (.slice (some ⟨w.heap.size, 0, none⟩) n c) l ∧ ∀ row, w.grownBy (w.drew.alloc (.cells cs 5)) row := by
  subst hn
  exact ⟨⟨w.heap.size, c, cs, (0, 0), rfl, hB, heap_alloc_new w.drew _, .inl rfl, hc, hm, hcs, ht⟩, fun row => ⟨rfl, rfl, rfl, by simp, fun k hk _ => heap_alloc_old w.drew _ hk⟩⟩
theorem app_string (h : OwnB w B v l) (hB : B ≤ w.heap.size) (s : ByteArray) (hs : l.length + s.size ≤ 1000000000) (ty : TypeId) : ∃ v' w', (Builtin.append_ #[33, 9] ty #[v, .string s]).run Tryd.prog w = .ok v' w' ∧ OwnB w' B v' (l ++ s.data.toList) ∧ w.grownBy w' v.ownBlock := by
  obtain ⟨i0, hi0, hz0, hz1, hz2⟩ := info_parts Bld.X.infoByte
  have hi : Tryd.prog.info? 5 = some i0 := hi0
  have hcl := h.cells
  obtain ⟨g, cap, cur, fz, rfl, h2, h3, h4, h5, h6, h7, h8⟩ := h
  have hsl : s.data.toList.length = s.size := by simp [← ByteArray.size_data]
  have hll : (l ++ s.data.toList).length = l.length + s.size := by rw [List.length_append, hsl]
  by_cases hroom : l.length + s.size ≤ cap
  · have hf := Lib.run_firstCells_string (P := Tryd.prog) w 1 s
    have hst := storeZ g 5 fz (Lib.strCells s) l.length 0 cur w h3 (by rw [h7]; exact h4) (by rw [Lib.strCells_length]; omega) (Lib.strCells_oneCell s)
    simp only [Nat.add_zero, Lib.strCells_length] at hst
    have hr : (Builtin.append_ #[33, 9] ty #[.slice (some ⟨g, 0, none⟩) l.length cap, .string s]).run Tryd.prog w = .ok (.slice (some ⟨g, 0, none⟩) (l.length + s.size) cap) (w.setRow g (cur.toList.take l.length ++ Lib.strCells s ++ cur.toList.drop (l.length + s.size)).toArray) := by
      simp [Builtin.append_, run_underlying Tryd.underlying33, run_underlying Tryd.underlying9, sizeOf, typeInfo, hi, hz1, Builtin.lenOf, hroom, hf, Addr.add_lit, hst]
    refine ⟨_, _, hr, ⟨g, cap, _, fz, by rw [hll], h2, setRow_heap w g cur _ _ fz h3, h4, by rw [hll]; exact hroom, h6, ?_, ?_⟩, ⟨rfl, rfl, rfl, by simp, fun k _ hk => setRow_other w g k _ (fun e => hk (by simp [Value.ownBlock, e]))⟩⟩
    · simp only [List.size_toArray, List.length_append, List.length_take, List.length_drop, Array.length_toList, Lib.strCells_length]
      omega
    · rw [hll, h8, Lib.byteCells_append, ← Lib.strCells_eq]
      exact List.take_left' (by rw [List.length_append, Lib.byteCells_length, Lib.strCells_length])
  · obtain ⟨g', cap', e, holds⟩ := hcl
    injection e with e1 _ e2
    injection e1 with e1
    injection e1 with e1
    subst e1 e2
    have hr := Lib.run_append_grow_string (P := Tryd.prog) w 33 9 ty 5 i0 (.int .u8 0) Tryd.underlying33 Tryd.underlying9 hi hz0 ⟨g, 0, none⟩ l.length cap (Lib.byteCells l) (by rw [hz1, Lib.byteCells_length, Nat.mul_one]) (fun j u hj => by
      have := holds j u hj
      rw [show (⟨g, 0, none⟩ : Addr).add j = ⟨g, j, none⟩ from by unfold Addr.add; split <;> simp_all]
      exact this) s (by omega) (by omega) (by rw [hz2]; exact growslice_fits (by omega) (by omega))
    have hge := grownCap_ge w (l.length + s.size) cap 5
    have hm := grownCap_le_maxLen w (l.length + s.size) cap 5 (by unfold maxLen; omega)
    have hg := OwnB.grown w B hB (l ++ s.data.toList) (l.length + s.size) hll _ hge hm ((Lib.byteCells l).toArray ++ (Lib.strCells s).toArray ++ Builtin.zeroCells (Value.int .u8 0).cells (grownCap w (l.length + s.size) cap 5 - (l.length + s.size))) (by
      have hz : (Value.int IntKind.u8 0).cells.size = 1 := rfl
      simp only [Array.size_append, List.size_toArray, size_zeroCells, hz, Lib.byteCells_length, Lib.strCells_length]
      omega) (by
      simp only [Array.toList_append]
      rw [Lib.byteCells_append, ← Lib.strCells_eq]
      exact List.take_left' (by simp [Lib.byteCells_length, Lib.strCells_length]))
    exact ⟨_, _, hr, hg.1, hg.2 _⟩
theorem app_byte (h : OwnB w B v l) (hB : B ≤ w.heap.size) (a : Addr) (c : Nat) (b : UInt8) (ha : w.cell? a = some (.int .u8 (b.toNat : Int))) (hs : l.length + 1 ≤ 1000000000) (ty : TypeId) : ∃ v' w', (Builtin.append_ #[33, 33] ty #[v, .slice (some a) 1 c]).run Tryd.prog w = .ok v' w' ∧ OwnB w' B v' (l ++ [b]) ∧ w.grownBy w' v.ownBlock := by
  obtain ⟨i0, hi0, hz0, hz1, hz2⟩ := info_parts Bld.X.infoByte
  have hi : Tryd.prog.info? 5 = some i0 := hi0
  have hcl := h.cells
  obtain ⟨g, cap, cur, fz, rfl, h2, h3, h4, h5, h6, h7, h8⟩ := h
  have hll : (l ++ [b]).length = l.length + 1 := by simp
  have hnews : ∀ j u, [Value.int .u8 (b.toNat : Int)][j]? = some u → w.cell? (a.add j) = some u := by
    intro j u hj
    match j, hj with
    | 0, hj =>
      obtain rfl := Option.some.inj hj
      exact ha
  by_cases hroom : l.length + 1 ≤ cap
  · have hf := run_firstCells_some (P := Tryd.prog) w 1 1 a 1 c [Value.int .u8 (b.toNat : Int)] rfl hnews
    have hst := storeZ g 5 fz [Value.int .u8 (b.toNat : Int)] l.length 0 cur w h3 (by rw [h7]; exact h4) (by show l.length + 0 + 1 ≤ _; omega) (fun u hu => by rw [List.mem_singleton.1 hu]; rfl)
    simp only [Nat.add_zero, List.length_singleton] at hst
    have hr : (Builtin.append_ #[33, 33] ty #[.slice (some ⟨g, 0, none⟩) l.length cap, .slice (some a) 1 c]).run Tryd.prog w = .ok (.slice (some ⟨g, 0, none⟩) (l.length + 1) cap) (w.setRow g (cur.toList.take l.length ++ [Value.int .u8 (b.toNat : Int)] ++ cur.toList.drop (l.length + 1)).toArray) := by
      simp [Builtin.append_, run_underlying Tryd.underlying33, sizeOf, typeInfo, hi, hz1, Builtin.lenOf, hroom, hf, Addr.add_lit, hst]
    refine ⟨_, _, hr, ⟨g, cap, _, fz, by rw [hll], h2, setRow_heap w g cur _ _ fz h3, h4, by rw [hll]; exact hroom, h6, ?_, ?_⟩, ⟨rfl, rfl, rfl, by simp, fun k _ hk => setRow_other w g k _ (fun e => hk (by simp [Value.ownBlock, e]))⟩⟩
    · simp only [List.size_toArray, List.length_append, List.length_take, List.length_drop, Array.length_toList, List.length_singleton]
      omega
    · rw [hll, h8, Lib.byteCells_append]
      exact List.take_left' (by simp [Lib.byteCells_length])
  · obtain ⟨g', cap', e, holds⟩ := hcl
    injection e with e1 _ e2
    injection e1 with e1
    injection e1 with e1
    subst e1 e2
    have hr := run_append_grow (P := Tryd.prog) w 33 ty 5 i0 (.int .u8 0) Tryd.underlying33 hi hz0 ⟨g, 0, none⟩ l.length cap (Lib.byteCells l) (by rw [hz1, Lib.byteCells_length, Nat.mul_one]) (fun j u hj => by
      have := holds j u hj
      rw [show (⟨g, 0, none⟩ : Addr).add j = ⟨g, j, none⟩ from by unfold Addr.add; split <;> simp_all]
      exact this) a 1 c [Value.int .u8 (b.toNat : Int)] (by rw [hz1]; rfl) hnews (by omega) (by omega) (by rw [hz2]; exact growslice_fits (by omega) (by omega))
    have hge := grownCap_ge w (l.length + 1) cap 5
    have hm := grownCap_le_maxLen w (l.length + 1) cap 5 (by unfold maxLen; omega)
    have hg := OwnB.grown w B hB (l ++ [b]) (l.length + 1) hll _ hge hm ((Lib.byteCells l).toArray ++ [Value.int .u8 (b.toNat : Int)].toArray ++ Builtin.zeroCells (Value.int .u8 0).cells (grownCap w (l.length + 1) cap 5 - (l.length + 1))) (by
      have hz : (Value.int IntKind.u8 0).cells.size = 1 := rfl
      simp only [Array.size_append, List.size_toArray, size_zeroCells, hz, Lib.byteCells_length, List.length_singleton]
      omega) (by
      simp only [Array.toList_append]
      rw [Lib.byteCells_append]
      exact List.take_left' (by simp [Lib.byteCells_length]))
    exact ⟨_, _, hr, hg.1, hg.2 _⟩
section
variable {ops : Array Oper} {rest : List Oper} {o : Oper} {a : Act} {Q : Exit → Act → World → Prop}
theorem wp_app_string (hgd : o.guard = none) (sl x : Operand) (ho : o.op = .call { callee := .builtin .append, args := #[sl, x], argTypes := #[33, 9] }) (hv : a.eval sl = v) (s : ByteArray) (hx : a.eval x = .string s) (h : OwnB w B v l) (hB : B ≤ w.heap.size) (hs : l.length + s.size ≤ 1000000000)
    (hK : ∀ v' w', OwnB w' B v' (l ++ s.data.toList) → w.grownBy w' v.ownBlock → wpList Tryd.prog ops Q rest (a.put o.dst v') w') : wpList Tryd.prog ops Q (o :: rest) a w := by
  refine wpList_plain hgd fun K hK' => ?_
  obtain ⟨v', w', hr, h2, h3⟩ := app_string h hB s hs o.type
  unfold Oper.wp execOp
  simp only [ho, resolve, invoke, builtin, Sem.run_bind, Sem.run_pure, Result.andThen_ok, List.map_toArray, List.map_cons, List.map_nil, hv, hx, hr]
  exact hK' _ _ (hK v' w' h2 h3)
theorem wp_app_byte (hgd : o.guard = none) (sl x : Operand) (ho : o.op = .call { callee := .builtin .append, args := #[sl, x], argTypes := #[33, 33] }) (hv : a.eval sl = v) (ad : Addr) (c : Nat) (b : UInt8) (hx : a.eval x = .slice (some ad) 1 c) (ha : w.cell? ad = some (.int .u8 (b.toNat : Int))) (h : OwnB w B v l) (hB : B ≤ w.heap.size) (hs : l.length + 1 ≤ 1000000000)
    (hK : ∀ v' w', OwnB w' B v' (l ++ [b]) → w.grownBy w' v.ownBlock → wpList Tryd.prog ops Q rest (a.put o.dst v') w') : wpList Tryd.prog ops Q (o :: rest) a w := by
  refine wpList_plain hgd fun K hK' => ?_
  obtain ⟨v', w', hr, h2, h3⟩ := app_byte h hB ad c b ha hs o.type
  unfold Oper.wp execOp
  simp only [ho, resolve, invoke, builtin, Sem.run_bind, Sem.run_pure, Result.andThen_ok, List.map_toArray, List.map_cons, List.map_nil, hv, hx, hr]
  exact hK' _ _ (hK v' w' h2 h3)
end
end
end Go.Proofs.YtbnonnogkgbpiaaDoor.OwnZ
end
section
namespace Go.Proofs.YtbnonnogkgbpiaaDoor.OwnZ
open Go Go.RowKit Go.Proofs.YtbnonnogkgbpiaaDoorW.PrintWords Go.Proofs.YtbnonnogkgbpiaaDoor.TreeText
set_option linter.unusedVariables false
set_option linter.unusedSimpArgs false
theorem cat_run (a b : List UInt8) (h : a.length + b.length ≤ 1000000000) (W : World) : Sem.run Tryd.prog (binOp BinOp.add 9 (.string ⟨a.toArray⟩) (.string ⟨b.toArray⟩)) W = .ok (.string ⟨(a ++ b).toArray⟩) W := by
  have hs : (((⟨a.toArray⟩ : ByteArray).size + (⟨b.toArray⟩ : ByteArray).size : Nat) : Int) = ((a.length + b.length : Nat) : Int) := by simp [← ByteArray.size_data]
  have hm : IntKind.i64.max = 9223372036854775807 := by decide
  show Sem.run Tryd.prog (Op.stringOp BinOp.add _ _) W = _
  unfold Op.stringOp
  simp only
  rw [if_neg (by rw [hs, hm]; omega), cat_eq]
  rfl
theorem cat_exec {ev : Operand → Value} {oi : Oper} {x y : Operand} {ty : TypeId} {a b : List UInt8} (hop : oi.op = .binOp .add 9 x y ty) (hx : ev x = .string ⟨a.toArray⟩) (hy : ev y = .string ⟨b.toArray⟩) (h : a.length + b.length ≤ 1000000000) (W : World) : (execOp ev oi).run Tryd.prog W = .ok (.value (.string ⟨(a ++ b).toArray⟩)) W := by
  unfold execOp
  simp only [hop, Sem.run_bind, hx, hy]
  rw [show Sem.run Tryd.prog (eqGuard BinOp.add 9 x y (Value.string ⟨a.toArray⟩) (Value.string ⟨b.toArray⟩)) W = .ok () W from rfl, Result.andThen_ok, cat_run a b h W]
  rfl
theorem conv_exec {ev : Operand → Value} {oi : Oper} {x : Operand} {a : List UInt8} (hop : oi.op = .convert 9 33 x) (hx : ev x = .string ⟨a.toArray⟩) (W : World) : (execOp ev oi).run Tryd.prog W = .ok (.value (.slice (some ⟨W.heap.size, 0, none⟩) (⟨a.toArray⟩ : ByteArray).size (grownCap W (⟨a.toArray⟩ : ByteArray).size 0 5))) (Lib.bytesWorld W 5 ⟨a.toArray⟩) := by
  unfold execOp
  simp only [hop, Sem.run_bind, hx]
  rw [Lib.run_convert_string_bytes W 9 33 5 ⟨a.toArray⟩ Tryd.underlying9 Tryd.underlying33 Tryd.underlying5]
  rfl
theorem str_back (l : List UInt8) : strOfNums (l.map fun b => (b.toNat : Int)) = ⟨l.toArray⟩ := by
  apply ByteArray.ext
  have e : (l.map ((fun n : Int => UInt8.ofNat n.toNat) ∘ fun b : UInt8 => (b.toNat : Int))) = l := by
    conv => rhs; rw [← List.map_id l]
    apply List.map_congr_left
    intro b _
    simp
  simp [strOfNums, e]
set_option maxRecDepth 100000 in
theorem OwnB.text {w : World} {B : Nat} {l : List UInt8} {A : Option Addr} {n c : Nat} (h : OwnB w B (.slice A n c) l) (hl : l.length ≤ 1000000000) : (convert 33 9 (.slice A n c)).run Tryd.prog w = .ok (.string ⟨l.toArray⟩) w := by
  obtain ⟨g, cap, e, hc⟩ := h.cells
  injection e with e1 e2 e3
  subst e1 e2 e3
  have hC : Kd.C (Kd.int .u8) w (some ⟨g, 0, none⟩) l.length (l.map fun b => (b.toNat : Int)) := by
    refine Kd.C_of_reads (d := 0) ⟨by simp, by omega, fun _ => ⟨_, rfl, fun j hj => ?_⟩⟩
    have hj2 : (Lib.byteCells l)[j]? = some (.int .u8 ((l.map fun b => (b.toNat : Int)).getD j 0)) := by
      simp [Lib.byteCells, List.getD_eq_getElem?_getD, List.getElem?_map, List.getElem?_eq_getElem hj]
    have := hc j _ hj2
    rw [show (⟨g, 0, none⟩ : Addr).add j = ⟨g, j, none⟩ from by unfold Addr.add; split <;> simp_all]
    exact this
  have h2 := Kd.C_string (P := Tryd.prog) (c := c) Tryd.underlying33 Tryd.underlying5 Tryd.underlying9 hC
  rw [str_back] at h2
  exact h2
structure RP (w W : World) (st n rt : Int) (A : Option Addr) (m c : Nat) (t : Nat) (v : Value) (T : List UInt8) : Prop where
  own : OwnB W w.heap.size v T
  bx : W.heap[t]? = some (.cells #[.int .i64 st, .int .i64 n, .slice A m c, .int .i64 rt] 24 (0, 0))
  be : Below w.heap.size w W
section
variable {w W W' : World} {st n rt : Int} {A : Option Addr} {m c t : Nat} {v v' : Value} {T T' : List UInt8}
theorem RP.on (h : RP w W st n rt A m c t v T) (hb : Below W.heap.size W W') : RP w W' st n rt A m c t v T := ⟨h.own.on hb, blk_below h.bx hb, h.be.trans (hb.mono h.be.size)⟩
theorem RP.grow (h : RP w W st n rt A m c t v T) (ho : OwnB W' w.heap.size v' T') (hg : W.grownBy W' v.ownBlock) : RP w W' st n rt A m c t v' T' := by
  obtain ⟨g, cap, cur, fz, rfl, h2, h3, h4⟩ := h.own
  refine ⟨ho, blk_grown h.bx hg (fun e => ?_), h.be.grown hg h.be.size (fun k hk => ?_)⟩
  · obtain rfl : t = g := by simpa [Value.ownBlock] using e
    rw [h.bx] at h3
    injection h3 with h3
    injection h3 with _ h3
    exact absurd h3 (by decide)
  · obtain rfl : g = k := by simpa [Value.ownBlock] using hk
    exact h2
end
section
variable {w : World} {B : Nat} {v : Value} {l : List UInt8} {ops : Array Oper} {rest : List Oper} {o : Oper} {a : Act} {Q : Exit → Act → World → Prop}
theorem wp_text (hgd : o.guard = none) (sl x : Operand) (ho : o.op = .call { callee := .builtin .append, args := #[sl, x], argTypes := #[33, 9] }) (hv : a.eval sl = v) (s : ByteArray) (d : List UInt8) (hd : s = ⟨d.toArray⟩) (hx : a.eval x = .string s) (h : OwnB w B v l) (hB : B ≤ w.heap.size) (hs : l.length + d.length ≤ 1000000000)
    (hK : ∀ v' w', OwnB w' B v' (l ++ d) → w.grownBy w' v.ownBlock → wpList Tryd.prog ops Q rest (a.put o.dst v') w') : wpList Tryd.prog ops Q (o :: rest) a w := by
  subst hd
  exact wp_app_string hgd sl x ho hv _ hx h hB (by rw [show (⟨d.toArray⟩ : ByteArray).size = d.length by simp [← ByteArray.size_data]]; exact hs) (fun v' w' h1 h2 => hK v' w' (by simpa using h1) h2)
end
end Go.Proofs.YtbnonnogkgbpiaaDoor.OwnZ
end
section
namespace Go.Proofs.YtbnonnogkgbpiaaDoor.OwnZ
open Go Go.RowKit Go.Proofs.YtbnonnogkgbpiaaDoorW.PrintWords Go.Proofs.YtbnonnogkgbpiaaDoorW.PrintLast Go.Proofs.YtbnonnogkgbpiaaDoorW.PrintMore Go.Proofs.YtbnonnogkgbpiaaDoor.PT Go.Proofs.YtbnonnogkgbpiaaDoor.TreePlain Go.Proofs.YtbnonnogkgbpiaaDoor.TreeText
set_option linter.unusedVariables false
set_option linter.unusedSimpArgs false
theorem wrap_small (x : Int) (h0 : 0 ≤ x) (h1 : x ≤ 4000000) : wrap64 x = x := by
  unfold wrap64
  omega
set_option maxHeartbeats 8000000 in
set_option maxRecDepth 100000 in
theorem rprint_bad (k : Nat) (st n : Int) (A : Option Addr) (c : Nat) (l : List S49) (rt code : Int) (w : World) (hr : Kd.C k49 w A l.length l) (hc : l.length ≤ c) (h : vivariumref11_Check.f k st n l rt = some code) (hcode : (code != 0) = true) :
    Calls Tryd.prog 42 #[.agg #[.int .i64 st, .int .i64 n, .slice A l.length c, .int .i64 rt]] w fun e w' => e = .returned (.tuple #[.string ⟨#[]⟩, .int .i64 code]) ∧ Below w.heap.size w w' := by
  have hu := Tryd.underlying24
  have CK := Aside0.mk (fun (W : World) (hW : Below w.heap.size w W) => vivariumref11_Check.calls k st n A c l rt code W (Kd.C_below hr hW) hc h)
  have HB := Aside0.mk (Below.refl w.heap.size w)
  clear hr hc h
  go_enter Tryd.func42, Tryd.ntmps42
  go_wp2_with (first
    | ((with_reducible refine gate_dst (N := 1) rfl ?_); refine box_event ?hg (N := 1) ?hd (cs := #[.int .i64 st, .int .i64 n, .slice A l.length c, .int .i64 rt]) (t := 24) ?hr ?_; (case hd => rfl); (case hg => rfl); (case hr => first | (go_simp; done) | (go_simp; rfl)); intro t hg W9 hbox hb; have n_ := below_step HB.out hb; clear HB; have HB := Aside0.mk n_; obtain ⟨gc0, gc1, gc2, gc3⟩ := four hbox; clear n_ hg hbox hb)
    | (go_at_call 39; (with_reducible refine (CK.out _ HB.out).mono ?_); rintro e_ W9 ⟨rfl, hb⟩; have n_ := below_step HB.out hb; clear HB gc0 gc1 gc2 gc3; have HB := Aside0.mk n_; clear n_ hb))
  go_ret2
  exact ⟨rfl, HB.out⟩
theorem look {w W : World} {st n rt : Int} {ad : Addr} {m c t : Nat} {v : Value} {T : List UInt8} {p q : Addr} {a b : Value} (h : RP w W st n rt (some ad) m c t v T) (h1 : w.cell? p = some a) (h2 : w.cell? q = some b) : W.cell? ⟨t, 2, none⟩ = some (.slice (some ad) m c) ∧ W.cell? p = some a ∧ W.cell? q = some b := ⟨(blk_cell h.bx 2).trans rfl, pw_cell_below h.be h1, pw_cell_below h.be h2⟩
def headR (st n len rt : Int) : List UInt8 := [116, 114, 101, 101, 32] ++ Lib.itoa st ++ [32] ++ Lib.itoa n ++ [32] ++ Lib.itoa len ++ [32] ++ Lib.itoa rt ++ [10]
theorem headR_is (st n len rt : Int) : headR st n len rt = headT st n len rt := by
  simp [headR, headT, spacedT, rd]
set_option maxHeartbeats 32000000 in
set_option maxRecDepth 100000 in
theorem rprint_ok (k : Nat) (st n : Int) (A : Option Addr) (c : Nat) (l : List S49) (rt : Int) (w : World) (hp : Pow w) (hr : Kd.C k49 w A l.length l) (hc : l.length ≤ c) (h : vivariumref11_Check.f k st n l rt = some 0) (hF : Fine st n l rt) (hB0 : Bytes l) :
    Calls Tryd.prog 42 #[.agg #[.int .i64 st, .int .i64 n, .slice A l.length c, .int .i64 rt]] w fun e w' => e = .returned (.tuple #[.string ⟨(printP st n l rt).1.toArray⟩, .int .i64 (printP st n l rt).2]) ∧ Below w.heap.size w w' := by
  have hu := Tryd.underlying24
  have CK := Aside0.mk (fun (W : World) (hW : Below w.heap.size w W) => vivariumref11_Check.calls k st n A c l rt 0 W (Kd.C_below hr hW) hc h)
  have HB := Aside0.mk (Below.refl w.heap.size w)
  have HP := Aside0.mk hp
  have HR := Aside0.mk hr
  have HC := Aside0.mk hc
  have HF := Aside0.mk hF
  have HY := Aside0.mk hB0
  have hin : (-9223372036854775808 ≤ st ∧ st ≤ 9223372036854775807) ∧ (-9223372036854775808 ≤ n ∧ n ≤ 9223372036854775807) ∧ (-9223372036854775808 ≤ (l.length : Int) ∧ (l.length : Int) ≤ 9223372036854775807) ∧ (-9223372036854775808 ≤ rt ∧ rt ≤ 9223372036854775807) := by
    have f1 := hF.hst
    have f2 := hF.hn
    have f3 := hF.hl
    have f4 := hF.hrt
    omega
  have HV := Aside0.mk hin
  have hlens := And.intro (itoa_len st hin.1.1 hin.1.2) (And.intro (itoa_len n hin.2.1.1 hin.2.1.2) (And.intro (itoa_len (l.length : Int) hin.2.2.1.1 hin.2.2.1.2) (itoa_len rt hin.2.2.2.1 hin.2.2.2.2)))
  have HI := Aside0.mk hlens
  clear hr hc h hF hp hB0 hin hlens
  go_enter Tryd.func42, Tryd.ntmps42
  go_upto_region 4 with (first
    | ((with_reducible refine gate_dst (N := 1) rfl ?_); refine box_event ?hg (N := 1) ?hd (cs := #[.int .i64 st, .int .i64 n, .slice A l.length c, .int .i64 rt]) (t := 24) ?hr ?_; (case hd => rfl); (case hg => rfl); (case hr => first | (go_simp; done) | (go_simp; rfl)); intro t hg W9 hbox hb; have n_ := below_step HB.out hb; clear HB; have HB := Aside0.mk n_; have BX := Aside0.mk hbox; obtain ⟨gc0, gc1, gc2, gc3⟩ := four hbox; clear n_ hg hbox hb)
    | (go_at_call 39; (with_reducible refine (CK.out _ HB.out).mono ?_); rintro e_ W9 ⟨rfl, hb⟩; have n_ := below_step HB.out hb; have m_ := blk_below BX.out hb; clear CK HB BX gc0 gc1 gc2 gc3; have HB := Aside0.mk n_; have BX := Aside0.mk m_; obtain ⟨gc0, gc1, gc2, gc3⟩ := four m_; clear n_ m_ hb))
  clear gc0 gc1 gc2 gc3
  refine start_ (n := 23) (S := fun w' => w'.cell? ⟨t, 0, none⟩ = some (.int .i64 st) ∧ w'.cell? ⟨t, 1, none⟩ = some (.int .i64 n) ∧ w'.cell? ⟨t, 2, none⟩ = some (.slice A l.length c) ∧ w'.cell? ⟨t, 3, none⟩ = some (.int .i64 rt)) (ds := []) #[false, false, false, false, false, false, false, false, false, false, false, false, false, false, false, false, false, false, false, false, false, false, false] (by kernel_rfl) rfl rfl (four BX.out) (fun hHeld => ?_)
  have n_ := below_step HB.out (below_drew (Below.refl W9.heap.size W9))
  have m_ := blk_below BX.out (below_drew (Below.refl W9.heap.size W9))
  clear HB BX
  have HB := Aside0.mk n_
  have BX := Aside0.mk m_
  clear n_ m_
  generalize W9.drew = wk at HB BX hHeld ⊢
  refine pure_ (i := 0) (N := (some 13)) (v := ?_) (a' := ?_) #[true, false, false, false, false, false, false, false, false, false, false, false, false, false, false, false, false, false, false, false, false, false, false] rfl rfl (by kernel_rfl) (fun _ _ _ h => h) (Or.inl ⟨by rfl, ?_⟩) ?_ ?_
  rotate_left
  · intro w'
    go_simp
    with_reducible rfl
  rotate_left
  · simp only [Act.put, List.setIfInBounds_toArray, List.set_cons_zero, List.set_cons_succ, i64_w, i32_w]
    rfl
  refine take_ (i := 1) (N := (some 14)) (v := ?_) (a' := ?_) #[true, true, false, false, false, false, false, false, false, false, false, false, false, false, false, false, false, false, false, false, false, false, false] rfl rfl (by kernel_rfl) (fun _ _ _ h => h) (Or.inl ⟨by rfl, ?_⟩) hHeld ?_ ?_
  rotate_left
  · rintro w' ⟨s0, s1, s2, s3⟩
    go_simp
    with_reducible rfl
  rotate_left
  · simp only [Act.put, List.setIfInBounds_toArray, List.set_cons_zero, List.set_cons_succ, i64_w, i32_w]
    rfl
  refine pure_ (i := 5) (N := (some 18)) (v := ?_) (a' := ?_) #[true, true, false, false, false, true, false, false, false, false, false, false, false, false, false, false, false, false, false, false, false, false, false] rfl rfl (by kernel_rfl) (fun _ _ _ h => h) (Or.inl ⟨by rfl, ?_⟩) ?_ ?_
  rotate_left
  · intro w'
    go_simp
    with_reducible rfl
  rotate_left
  · simp only [Act.put, List.setIfInBounds_toArray, List.set_cons_zero, List.set_cons_succ, i64_w, i32_w]
    rfl
  refine take_ (i := 6) (N := (some 19)) (v := ?_) (a' := ?_) #[true, true, false, false, false, true, true, false, false, false, false, false, false, false, false, false, false, false, false, false, false, false, false] rfl rfl (by kernel_rfl) (fun _ _ _ h => h) (Or.inl ⟨by rfl, ?_⟩) hHeld ?_ ?_
  rotate_left
  · rintro w' ⟨s0, s1, s2, s3⟩
    go_simp
    with_reducible rfl
  rotate_left
  · simp only [Act.put, List.setIfInBounds_toArray, List.set_cons_zero, List.set_cons_succ, i64_w, i32_w]
    rfl
  refine pure_ (i := 10) (N := (some 23)) (v := ?_) (a' := ?_) #[true, true, false, false, false, true, true, false, false, false, true, false, false, false, false, false, false, false, false, false, false, false, false] rfl rfl (by kernel_rfl) (fun _ _ _ h => h) (Or.inl ⟨by rfl, ?_⟩) ?_ ?_
  rotate_left
  · intro w'
    go_simp
    with_reducible rfl
  rotate_left
  · simp only [Act.put, List.setIfInBounds_toArray, List.set_cons_zero, List.set_cons_succ, i64_w, i32_w]
    rfl
  refine take_ (i := 11) (N := (some 24)) (v := ?_) (a' := ?_) #[true, true, false, false, false, true, true, false, false, false, true, true, false, false, false, false, false, false, false, false, false, false, false] rfl rfl (by kernel_rfl) (fun _ _ _ h => h) (Or.inl ⟨by rfl, ?_⟩) hHeld ?_ ?_
  rotate_left
  · rintro w' ⟨s0, s1, s2, s3⟩
    go_simp
    with_reducible rfl
  rotate_left
  · simp only [Act.put, List.setIfInBounds_toArray, List.set_cons_zero, List.set_cons_succ, i64_w, i32_w]
    rfl
  refine pure_ (i := 12) (N := (some 25)) (v := ?_) (a' := ?_) #[true, true, false, false, false, true, true, false, false, false, true, true, true, false, false, false, false, false, false, false, false, false, false] rfl rfl (by kernel_rfl) (fun _ _ _ h => h) (Or.inl ⟨by rfl, ?_⟩) ?_ ?_
  rotate_left
  · intro w'
    go_simp
    with_reducible rfl
  rotate_left
  · simp only [Act.put, List.setIfInBounds_toArray, List.set_cons_zero, List.set_cons_succ, i64_w, i32_w]
    rfl
  refine pure_ (i := 16) (N := (some 29)) (v := ?_) (a' := ?_) #[true, true, false, false, false, true, true, false, false, false, true, true, true, false, false, false, true, false, false, false, false, false, false] rfl rfl (by kernel_rfl) (fun _ _ _ h => h) (Or.inl ⟨by rfl, ?_⟩) ?_ ?_
  rotate_left
  · intro w'
    go_simp
    with_reducible rfl
  rotate_left
  · simp only [Act.put, List.setIfInBounds_toArray, List.set_cons_zero, List.set_cons_succ, i64_w, i32_w]
    rfl
  refine take_ (i := 17) (N := (some 30)) (v := ?_) (a' := ?_) #[true, true, false, false, false, true, true, false, false, false, true, true, true, false, false, false, true, true, false, false, false, false, false] rfl rfl (by kernel_rfl) (fun _ _ _ h => h) (Or.inl ⟨by rfl, ?_⟩) hHeld ?_ ?_
  rotate_left
  · rintro w' ⟨s0, s1, s2, s3⟩
    go_simp
    with_reducible rfl
  rotate_left
  · simp only [Act.put, List.setIfInBounds_toArray, List.set_cons_zero, List.set_cons_succ, i64_w, i32_w]
    rfl
  refine one_ (i := 2) (N := (some 15)) #[true, true, true, false, false, true, true, false, false, false, true, true, true, false, false, false, true, true, false, false, false, false, false] rfl rfl (by kernel_rfl) (by decide) (fun K hK => ?_)
  refine goes_ Tryd.func52 (by kernel_rfl) rfl #[.int .i64 (st)] (by rfl) rfl rfl (by (try simp only [List.map_toArray, List.map_cons, List.map_nil]); first | done | rfl) ?_
  with_reducible refine (itoa_any (st) HV.out.1.1 HV.out.1.2 wk (HP.out.on HB.out)).mono ?_
  rintro en_ wk1 ⟨rfl, hb⟩
  refine ⟨_, rfl, ?_⟩
  have n_ := below_step HB.out hb
  have m_ := blk_below BX.out hb
  clear HB BX hb
  have HB := Aside0.mk n_
  have BX := Aside0.mk m_
  clear n_ m_
  refine hK.out _ _ (four BX.out) (fun hHeld => ?_)
  clear hK K
  refine pure_ (i := 3) (N := (some 16)) (v := .string ⟨([116, 114, 101, 101, 32] ++ Lib.itoa st).toArray⟩) (a' := ?_) #[true, true, true, true, false, true, true, false, false, false, true, true, true, false, false, false, true, true, false, false, false, false, false] rfl rfl (by kernel_rfl) (fun _ _ _ h => h) (Or.inl ⟨by rfl, ?_⟩) ?_ ?_
  · intro w'
    exact cat_exec rfl rfl rfl (by have := HI.out; simp only [List.length_append, List.length_cons, List.length_nil]; omega) w'
  rotate_left
  · simp only [Act.put, List.setIfInBounds_toArray, List.set_cons_zero, List.set_cons_succ, i64_w, i32_w]
    rfl
  refine pure_ (i := 4) (N := (some 17)) (v := .string ⟨([116, 114, 101, 101, 32] ++ Lib.itoa st ++ [32]).toArray⟩) (a' := ?_) #[true, true, true, true, true, true, true, false, false, false, true, true, true, false, false, false, true, true, false, false, false, false, false] rfl rfl (by kernel_rfl) (fun _ _ _ h => h) (Or.inl ⟨by rfl, ?_⟩) ?_ ?_
  · intro w'
    exact cat_exec rfl rfl rfl (by have := HI.out; simp only [List.length_append, List.length_cons, List.length_nil]; omega) w'
  rotate_left
  · simp only [Act.put, List.setIfInBounds_toArray, List.set_cons_zero, List.set_cons_succ, i64_w, i32_w]
    rfl
  refine one_ (i := 7) (N := (some 20)) #[true, true, true, true, true, true, true, true, false, false, true, true, true, false, false, false, true, true, false, false, false, false, false] rfl rfl (by kernel_rfl) (by decide) (fun K hK => ?_)
  refine goes_ Tryd.func52 (by kernel_rfl) rfl #[.int .i64 (n)] (by rfl) rfl rfl (by (try simp only [List.map_toArray, List.map_cons, List.map_nil]); first | done | rfl) ?_
  with_reducible refine (itoa_any (n) HV.out.2.1.1 HV.out.2.1.2 wk1 (HP.out.on HB.out)).mono ?_
  rintro en_ wk2 ⟨rfl, hb⟩
  refine ⟨_, rfl, ?_⟩
  have n_ := below_step HB.out hb
  have m_ := blk_below BX.out hb
  clear HB BX hb
  have HB := Aside0.mk n_
  have BX := Aside0.mk m_
  clear n_ m_
  refine hK.out _ _ (four BX.out) (fun hHeld => ?_)
  clear hK K
  refine pure_ (i := 8) (N := (some 21)) (v := .string ⟨([116, 114, 101, 101, 32] ++ Lib.itoa st ++ [32] ++ Lib.itoa n).toArray⟩) (a' := ?_) #[true, true, true, true, true, true, true, true, true, false, true, true, true, false, false, false, true, true, false, false, false, false, false] rfl rfl (by kernel_rfl) (fun _ _ _ h => h) (Or.inl ⟨by rfl, ?_⟩) ?_ ?_
  · intro w'
    exact cat_exec rfl rfl rfl (by have := HI.out; simp only [List.length_append, List.length_cons, List.length_nil]; omega) w'
  rotate_left
  · simp only [Act.put, List.setIfInBounds_toArray, List.set_cons_zero, List.set_cons_succ, i64_w, i32_w]
    rfl
  refine pure_ (i := 9) (N := (some 22)) (v := .string ⟨([116, 114, 101, 101, 32] ++ Lib.itoa st ++ [32] ++ Lib.itoa n ++ [32]).toArray⟩) (a' := ?_) #[true, true, true, true, true, true, true, true, true, true, true, true, true, false, false, false, true, true, false, false, false, false, false] rfl rfl (by kernel_rfl) (fun _ _ _ h => h) (Or.inl ⟨by rfl, ?_⟩) ?_ ?_
  · intro w'
    exact cat_exec rfl rfl rfl (by have := HI.out; simp only [List.length_append, List.length_cons, List.length_nil]; omega) w'
  rotate_left
  · simp only [Act.put, List.setIfInBounds_toArray, List.set_cons_zero, List.set_cons_succ, i64_w, i32_w]
    rfl
  refine one_ (i := 13) (N := (some 26)) #[true, true, true, true, true, true, true, true, true, true, true, true, true, true, false, false, true, true, false, false, false, false, false] rfl rfl (by kernel_rfl) (by decide) (fun K hK => ?_)
  refine goes_ Tryd.func52 (by kernel_rfl) rfl #[.int .i64 ((l.length : Int))] (by rfl) rfl rfl (by (try simp only [List.map_toArray, List.map_cons, List.map_nil]); first | done | rfl) ?_
  with_reducible refine (itoa_any ((l.length : Int)) HV.out.2.2.1.1 HV.out.2.2.1.2 wk2 (HP.out.on HB.out)).mono ?_
  rintro en_ wk3 ⟨rfl, hb⟩
  refine ⟨_, rfl, ?_⟩
  have n_ := below_step HB.out hb
  have m_ := blk_below BX.out hb
  clear HB BX hb
  have HB := Aside0.mk n_
  have BX := Aside0.mk m_
  clear n_ m_
  refine hK.out _ _ (four BX.out) (fun hHeld => ?_)
  clear hK K
  refine pure_ (i := 14) (N := (some 27)) (v := .string ⟨([116, 114, 101, 101, 32] ++ Lib.itoa st ++ [32] ++ Lib.itoa n ++ [32] ++ Lib.itoa (l.length : Int)).toArray⟩) (a' := ?_) #[true, true, true, true, true, true, true, true, true, true, true, true, true, true, true, false, true, true, false, false, false, false, false] rfl rfl (by kernel_rfl) (fun _ _ _ h => h) (Or.inl ⟨by rfl, ?_⟩) ?_ ?_
  · intro w'
    exact cat_exec rfl rfl rfl (by have := HI.out; simp only [List.length_append, List.length_cons, List.length_nil]; omega) w'
  rotate_left
  · simp only [Act.put, List.setIfInBounds_toArray, List.set_cons_zero, List.set_cons_succ, i64_w, i32_w]
    rfl
  refine pure_ (i := 15) (N := (some 28)) (v := .string ⟨([116, 114, 101, 101, 32] ++ Lib.itoa st ++ [32] ++ Lib.itoa n ++ [32] ++ Lib.itoa (l.length : Int) ++ [32]).toArray⟩) (a' := ?_) #[true, true, true, true, true, true, true, true, true, true, true, true, true, true, true, true, true, true, false, false, false, false, false] rfl rfl (by kernel_rfl) (fun _ _ _ h => h) (Or.inl ⟨by rfl, ?_⟩) ?_ ?_
  · intro w'
    exact cat_exec rfl rfl rfl (by have := HI.out; simp only [List.length_append, List.length_cons, List.length_nil]; omega) w'
  rotate_left
  · simp only [Act.put, List.setIfInBounds_toArray, List.set_cons_zero, List.set_cons_succ, i64_w, i32_w]
    rfl
  refine one_ (i := 18) (N := (some 31)) #[true, true, true, true, true, true, true, true, true, true, true, true, true, true, true, true, true, true, true, false, false, false, false] rfl rfl (by kernel_rfl) (by decide) (fun K hK => ?_)
  refine goes_ Tryd.func52 (by kernel_rfl) rfl #[.int .i64 (rt)] (by rfl) rfl rfl (by (try simp only [List.map_toArray, List.map_cons, List.map_nil]); first | done | rfl) ?_
  with_reducible refine (itoa_any (rt) HV.out.2.2.2.1 HV.out.2.2.2.2 wk3 (HP.out.on HB.out)).mono ?_
  rintro en_ wk4 ⟨rfl, hb⟩
  refine ⟨_, rfl, ?_⟩
  have n_ := below_step HB.out hb
  have m_ := blk_below BX.out hb
  clear HB BX hb
  have HB := Aside0.mk n_
  have BX := Aside0.mk m_
  clear n_ m_
  refine hK.out _ _ (four BX.out) (fun hHeld => ?_)
  clear hK K
  refine pure_ (i := 19) (N := (some 32)) (v := .string ⟨([116, 114, 101, 101, 32] ++ Lib.itoa st ++ [32] ++ Lib.itoa n ++ [32] ++ Lib.itoa (l.length : Int) ++ [32] ++ Lib.itoa rt).toArray⟩) (a' := ?_) #[true, true, true, true, true, true, true, true, true, true, true, true, true, true, true, true, true, true, true, true, false, false, false] rfl rfl (by kernel_rfl) (fun _ _ _ h => h) (Or.inl ⟨by rfl, ?_⟩) ?_ ?_
  · intro w'
    exact cat_exec rfl rfl rfl (by have := HI.out; simp only [List.length_append, List.length_cons, List.length_nil]; omega) w'
  rotate_left
  · simp only [Act.put, List.setIfInBounds_toArray, List.set_cons_zero, List.set_cons_succ, i64_w, i32_w]
    rfl
  refine pure_ (i := 20) (N := (some 33)) (v := .string ⟨([116, 114, 101, 101, 32] ++ Lib.itoa st ++ [32] ++ Lib.itoa n ++ [32] ++ Lib.itoa (l.length : Int) ++ [32] ++ Lib.itoa rt ++ [10]).toArray⟩) (a' := ?_) #[true, true, true, true, true, true, true, true, true, true, true, true, true, true, true, true, true, true, true, true, true, false, false] rfl rfl (by kernel_rfl) (fun _ _ _ h => h) (Or.inl ⟨by rfl, ?_⟩) ?_ ?_
  · intro w'
    exact cat_exec rfl rfl rfl (by have := HI.out; simp only [List.length_append, List.length_cons, List.length_nil]; omega) w'
  rotate_left
  · simp only [Act.put, List.setIfInBounds_toArray, List.set_cons_zero, List.set_cons_succ, i64_w, i32_w]
    rfl
  refine one_ (i := 21) (N := (some 34)) #[true, true, true, true, true, true, true, true, true, true, true, true, true, true, true, true, true, true, true, true, true, true, false] rfl rfl (by kernel_rfl) (by decide) (fun K hK => ?_)
  refine value_ (by rfl) rfl (conv_exec (a := headR st n (l.length : Int) rt) rfl rfl wk4) ?_
  refine hK.out _ _ (four (blk_below BX.out (Go.Joins.below_bytesWorld wk4.heap.size wk4 5 _ (Nat.le_refl _)))) (fun hHeld => ?_)
  clear hK K
  refine pure_ (i := 22) (N := (some 5)) (v := ?_) (a' := ?_) #[true, true, true, true, true, true, true, true, true, true, true, true, true, true, true, true, true, true, true, true, true, true, true] rfl rfl (by kernel_rfl) (fun _ _ _ h => h) (Or.inl ⟨by rfl, ?_⟩) ?_ ?_
  rotate_left
  · intro w'
    go_simp
    with_reducible rfl
  rotate_left
  · simp only [Act.put, List.setIfInBounds_toArray, List.set_cons_zero, List.set_cons_succ, i64_w, i32_w]
    rfl
  refine done_ (by kernel_rfl) ?_
  have F1 := Aside0.mk (RP.mk (v := .slice (some ⟨wk4.heap.size, 0, none⟩) (⟨(headR st n (l.length : Int) rt).toArray⟩ : ByteArray).size (grownCap wk4 (⟨(headR st n (l.length : Int) rt).toArray⟩ : ByteArray).size 0 5)) (T := headR st n (l.length : Int) rt) (OwnB.of_string wk4 w.heap.size HB.out.size ⟨(headR st n (l.length : Int) rt).toArray⟩ (by rw [show (⟨(headR st n (l.length : Int) rt).toArray⟩ : ByteArray).size = (headR st n (l.length : Int) rt).length by simp [← ByteArray.size_data]]; have := HI.out; simp only [headR, List.length_append, List.length_cons, List.length_nil]; omega)) (blk_below BX.out (Go.Joins.below_bytesWorld wk4.heap.size wk4 5 _ (Nat.le_refl _))) (HB.out.trans ((Go.Joins.below_bytesWorld wk4.heap.size wk4 5 ⟨(headR st n (l.length : Int) rt).toArray⟩ (Nat.le_refl _)).mono HB.out.size)))
  generalize Value.string ⟨([116, 114, 101, 101, 32] ++ Lib.itoa st ++ [32] ++ Lib.itoa n ++ [32] ++ Lib.itoa (l.length : Int) ++ [32] ++ Lib.itoa rt ++ [10]).toArray⟩ = z7_
  generalize Value.string ⟨([116, 114, 101, 101, 32] ++ Lib.itoa st ++ [32] ++ Lib.itoa n ++ [32] ++ Lib.itoa (l.length : Int) ++ [32] ++ Lib.itoa rt).toArray⟩ = z6_
  generalize Value.string ⟨([116, 114, 101, 101, 32] ++ Lib.itoa st ++ [32] ++ Lib.itoa n ++ [32] ++ Lib.itoa (l.length : Int) ++ [32]).toArray⟩ = z5_
  generalize Value.string ⟨([116, 114, 101, 101, 32] ++ Lib.itoa st ++ [32] ++ Lib.itoa n ++ [32] ++ Lib.itoa (l.length : Int)).toArray⟩ = z4_
  generalize Value.string ⟨([116, 114, 101, 101, 32] ++ Lib.itoa st ++ [32] ++ Lib.itoa n ++ [32]).toArray⟩ = z3_
  generalize Value.string ⟨([116, 114, 101, 101, 32] ++ Lib.itoa st ++ [32] ++ Lib.itoa n).toArray⟩ = z2_
  generalize Value.string ⟨([116, 114, 101, 101, 32] ++ Lib.itoa st ++ [32]).toArray⟩ = z1_
  generalize Value.string ⟨([116, 114, 101, 101, 32] ++ Lib.itoa st).toArray⟩ = z0_
  have hsz : (⟨(headR st n (l.length : Int) rt).toArray⟩ : ByteArray).size = (headR st n (l.length : Int) rt).length := by simp [← ByteArray.size_data]
  have HH := Aside0.mk (show (headR st n (l.length : Int) rt).length ≤ 1048576 by have := HI.out; simp only [headR, List.length_append, List.length_cons, List.length_nil]; omega)
  rw [hsz] at F1
  clear HB BX HI HV hHeld hsz
  rw [headR_is] at F1 HH
  rw [headR_is]
  generalize hRR : restT l l.length 0 (headT st n (l.length : Int) rt) = RR
  have hres : printP st n l rt = outT RR := by
    unfold printP
    rw [hRR]
  have HRES := Aside0.mk hres
  have HRR := Aside0.mk hRR
  clear hres hRR
  generalize headT st n (l.length : Int) rt = H0 at *
  generalize Lib.bytesWorld wk4 5 ⟨H0.toArray⟩ = W0 at *
  generalize grownCap wk4 H0.length 0 5 = c0 at *
  generalize wk4.heap.size = g0 at *
  go_wp2
  go_loopg [5, 6] l.length (fun g_ s5 s6 wq => ∃ (x : Int) (T : List UInt8) (v : Value), s6 = .int .i64 x ∧ s5 = v ∧ Aside0 (0 ≤ x ∧ (g_ : Int) = l.length - x) ∧ Aside0 ((T.length ≤ 1048576 ∧ restT l g_ x.toNat T = RR) ∨ (1048576 < T.length ∧ RR = none)) ∧ Aside0 (T.length ≤ 2000000) ∧ Aside0 (RP w wq st n rt A l.length c t v T))
  case atStart => exact ⟨0, _, _, rfl, rfl, ⟨by omega, by omega⟩, ⟨.inl ⟨HH.out, HRR.out⟩⟩, ⟨by have := HH.out; omega⟩, F1⟩
  case round =>
    clear F1 HH HRR
    obtain ⟨x, T, v, rfl, rfl, HX, HT, HT2, F⟩ := hrel
    obtain ⟨gv, cv, rfl, _⟩ := F.out.own.cells
    have gc2 := (blk_cell F.out.bx 2).trans (show _ = some (Value.slice A l.length c) from rfl)
    have hconv := F.out.own.text (by have := HT2.out; omega)
    by_cases big : (T.length : Int) > 1048576
    case pos =>
      have big2 : ¬ (T.length : Int) ≤ 1048576 := by omega
      have hRN : none = RR := by
        rcases HT.out with h | h
        · omega
        · exact h.2.symm
      by_cases q : x < (l.length : Int)
      case pos =>
        go_wp2
        go_ret2
        exact ⟨by rw [HRES.out, ← hRN]; rfl, F.out.be⟩
      case neg =>
        go_wp2
        go_ret2
        exact ⟨by rw [HRES.out, ← hRN]; rfl, F.out.be⟩
    case neg =>
      have big2 : (T.length : Int) ≤ 1048576 := by omega
      have hRT : restT l gk x.toNat T = RR := by
        rcases HT.out with h | h
        · exact h.2
        · omega
      by_cases q : x < (l.length : Int)
      case neg =>
        have hg0 : gk = 0 := by have := HX.out; omega
        subst hg0
        have hTR : some T = RR := hRT
        go_wp2
        go_ret2
        exact ⟨by rw [HRES.out, ← hTR]; rfl, F.out.be⟩
      case pos =>
        have p0 : 0 ≤ x := HX.out.1
        have w1_ := wrap_small (x + 1) (by omega) (by have := HF.out.hl; omega)
        obtain ⟨d, rfl⟩ : ∃ d, gk = d + 1 := ⟨gk - 1, by have := HX.out; omega⟩
        obtain ⟨ad, A1, c1, rfl, k0w, k1w, hc1, hK1⟩ := at_T49 HR.out x p0 q
        have k0_ := pw_cell_below F.out.be k0w
        have k1_ := pw_cell_below F.out.be k1w
        have hK0 : Kd.C (Kd.int .i64) w A1 (rd_T49 l x).f1.length (rd_T49 l x).f1 := hK1
        have HK := Aside0.mk hK0
        have hnd : rd_T49 l x = nd l x.toNat := rfl
        have hgood := HF.out.good x.toNat (by omega)
        have hby := nd_bytes HY.out x.toNat
        have hst := HF.out.hst
        have hll := HF.out.hl
        have hRR2 : (if 1048576 < (T ++ lineT (nd l x.toNat)).length then none else restT l d (x.toNat + 1) (T ++ lineT (nd l x.toNat))) = RR := hRT
        rw [← hnd] at hgood hby hRR2
        have hkl : (rd_T49 l x).f1.length ≤ 256 := by rcases hgood with h | h <;> omega
        have hkv : ∀ q, q < (rd_T49 l x).f1.length → -9223372036854775808 ≤ rd (rd_T49 l x).f1 q ∧ rd (rd_T49 l x).f1 q ≤ 9223372036854775807 := fun q hq => by
          rcases hgood with h | h
          · omega
          · have := h.2.2 q hq
            omega
        generalize rd_T49 l x = X at *
        obtain ⟨s, ks⟩ := X
        dsimp only at *
        have HR2 := Aside0.mk hRR2
        have HG := Aside0.mk (And.intro hby (And.intro hkl hkv))
        have KL := Aside0.mk (fun j hj => kidsT_len ks hkv j hj)
        have W0 := Aside0.mk (And.intro k0w k1w)
        have HTL := Aside0.mk (show T.length ≤ 1048576 by omega)
        clear hK1 hK0 hnd hgood hby hst hll hRR2 hkl hkv hc1 hRT k0w k1w hconv
        by_cases hlf : ks.length = 0
        · have l0_ : ((ks.length : Int) == 0) = true := by simp [hlf]
          have ws_ : wrap64 s = s := by have := HG.out; clear k0_ k1_ gc2; unfold wrap64; omega
          have hno := eq_false (show ¬ (9223372036854775807 < 2 + (Lib.itoa s).length) by have h3 := HG.out; have := itoa_len s (by omega) (by omega); omega)
          go_upto_region 10 with (first
            | (go_at_call 52; (with_reducible refine (itoa_any (s) (by have := HG.out; omega) (by have := HG.out; omega) _ (HP.out.on F.out.be)).mono ?_); rintro e_ w_ ⟨rfl, hb_⟩; have F2 := Aside0.mk (F.out.on hb_); clear hb_; clear F; have F := F2; clear F2; clear gc2 k0_ k1_; obtain ⟨gc2, k0_, k1_⟩ := look F.out W0.out.1 W0.out.2)
            | ((with_reducible refine gate_builtin (b := .append) (xs := #[.tmp 55, .tmp 64]) rfl ?_); at_builtin; refine wp_text rfl (.tmp 55) (.tmp 64) rfl rfl _ ([61, 32] ++ Lib.itoa s) (cat_eq [61, 32] _) rfl F.out.own F.out.be.size (by have := HTL.out; have h3 := HG.out; have := itoa_len s (by omega) (by omega); simp only [List.length_append, List.length_cons, List.length_nil]; omega) ?_; intro v_ w_ ho_ hg_; have F2 := Aside0.mk (F.out.grow ho_ hg_); clear ho_ hg_; clear F; have F := F2; clear F2; clear gc2 k0_ k1_; obtain ⟨gc2, k0_, k1_⟩ := look F.out W0.out.1 W0.out.2))
          go_wp2
          clear gc2 k0_ k1_
          go_loopg [5, 7] ks.length (fun g2_ s5 s7 wx => ∃ (y : Int) (vy : Value), s7 = .int .i64 y ∧ s5 = vy ∧ Aside0 (0 ≤ y ∧ (g2_ : Int) = ks.length - y) ∧ Aside0 (RP w wx st n rt (some ad) l.length c t vy (T ++ ([61, 32] ++ Lib.itoa s) ++ kidsT ks y.toNat)))
          case atStart => exact ⟨0, _, rfl, rfl, ⟨by omega, by omega⟩, ⟨by rw [show kidsT ks (0 : Int).toNat = [] from rfl, List.append_nil]; exact F.out⟩⟩
          case round =>
            clear F
            obtain ⟨y, vy, rfl, rfl, HY2, F⟩ := hrel
            obtain ⟨gc2, k0_, k1_⟩ := look F.out W0.out.1 W0.out.2
            by_cases q2 : y < (ks.length : Int)
            case pos =>
              exfalso
              have := HY2.out
              omega
            case neg =>
              have hy : y.toNat = ks.length := by have := HY2.out; omega
              rw [hy] at F
              have hline : T ++ lineT ⟨s, ks⟩ = T ++ ([61, 32] ++ Lib.itoa s) ++ kidsT ks ks.length ++ [10] := by
                unfold lineT
                dsimp only
                rw [if_pos hlf]
                simp only [List.append_assoc, List.nil_append]
              have hlen2 : (T ++ ([61, 32] ++ Lib.itoa s) ++ kidsT ks ks.length).length ≤ 1900000 := by
                have h1 := KL.out ks.length (Nat.le_refl _)
                have h2 := HTL.out
                have h3 := HG.out
                (try (have h4 := itoa_len s (by omega) (by omega)))
                simp only [List.length_append, List.length_cons, List.length_nil]
                omega
              have HL2 := Aside0.mk hlen2
              rw [hline] at HR2
              have HT3 : Aside0 (((T ++ ([61, 32] ++ Lib.itoa s) ++ kidsT ks ks.length ++ [10]).length ≤ 1048576 ∧ restT l d (x.toNat + 1) (T ++ ([61, 32] ++ Lib.itoa s) ++ kidsT ks ks.length ++ [10]) = RR) ∨ (1048576 < (T ++ ([61, 32] ++ Lib.itoa s) ++ kidsT ks ks.length ++ [10]).length ∧ RR = none)) := ⟨by
                have h := HR2.out
                by_cases b : 1048576 < (T ++ ([61, 32] ++ Lib.itoa s) ++ kidsT ks ks.length ++ [10]).length
                · rw [if_pos b] at h
                  exact .inr ⟨b, h.symm⟩
                · rw [if_neg b] at h
                  exact .inl ⟨by omega, h⟩⟩
              have HT4 := Aside0.mk (show (T ++ ([61, 32] ++ Lib.itoa s) ++ kidsT ks ks.length ++ [10]).length ≤ 2000000 by rw [List.length_append]; simp only [List.length_cons, List.length_nil]; omega)
              clear hline hlen2 HR2
              go_wp2_with (first
                | ((with_reducible refine gate_builtin (b := .append) (xs := #[.tmp 94, .tmp 95]) rfl ?_); at_builtin; refine wp_app_byte rfl (.tmp 94) (.tmp 95) rfl rfl ⟨_, 0, none⟩ 1 10 rfl ((blk_cell (heap_alloc_new _ (.cells #[.int .u8 10] 5)) 0).trans rfl) (F.out.on (below_alloc (Below.refl _ _) (.cells #[.int .u8 10] 5))).own (F.out.on (below_alloc (Below.refl _ _) (.cells #[.int .u8 10] 5))).be.size (by have := HL2.out; omega) ?_; intro v_ w_ ho_ hg_; have F2 := Aside0.mk ((F.out.on (below_alloc (Below.refl _ _) (.cells #[.int .u8 10] 5))).grow ho_ hg_); clear ho_ hg_; clear F; have F := F2; clear F2; clear gc2 k0_ k1_; obtain ⟨gc2, k0_, k1_⟩ := look F.out W0.out.1 W0.out.2))
              go_roundg d
              case measure => go_light; omega
              case rel =>
                go_light
                exact ⟨x + 1, _, _, by simp [w1_], rfl, ⟨by omega, by have := HX.out; omega⟩, ⟨by rw [show (x + 1).toNat = x.toNat + 1 by omega]; exact HT3.out⟩, HT4, F⟩
        · have l0_ : ((ks.length : Int) == 0) = false := by simp [hlf]
          go_upto_region 10 with fail
          go_wp2
          clear gc2 k0_ k1_
          go_loopg [5, 7] ks.length (fun g2_ s5 s7 wx => ∃ (y : Int) (vy : Value), s7 = .int .i64 y ∧ s5 = vy ∧ Aside0 (0 ≤ y ∧ (g2_ : Int) = ks.length - y) ∧ Aside0 (RP w wx st n rt (some ad) l.length c t vy (T ++ kidsT ks y.toNat)))
          case atStart => exact ⟨0, _, rfl, rfl, ⟨by omega, by omega⟩, ⟨by rw [show kidsT ks (0 : Int).toNat = [] from rfl, List.append_nil]; exact F.out⟩⟩
          case round =>
            clear F
            obtain ⟨y, vy, rfl, rfl, HY2, F⟩ := hrel
            obtain ⟨gc2, k0_, k1_⟩ := look F.out W0.out.1 W0.out.2
            by_cases q2 : y < (ks.length : Int)
            case pos =>
              have r0 : 0 ≤ y := HY2.out.1
              have w2_ := wrap_small (y + 1) (by omega) (by have := HG.out; omega)
              obtain ⟨a1, rfl, v0w⟩ := Kd.at_int HK.out y r0 q2
              have v0_ := pw_cell_below F.out.be v0w
              have V0 := Aside0.mk v0w
              have hv := HG.out.2.2 y.toNat (by omega)
              rw [show ((y.toNat : Nat) : Int) = y by omega] at hv
              have hkk : kidsT ks (y + 1).toNat = kidsT ks y.toNat ++ ((if 0 < y.toNat then [32] else []) ++ Lib.itoa (rd ks y)) := by
                rw [show (y + 1).toNat = y.toNat + 1 by omega]
                show _ ++ (_ ++ Lib.itoa (rd ks (y.toNat : Int))) = _
                rw [show ((y.toNat : Nat) : Int) = y by omega]
              have hkl := KL.out y.toNat (by omega)
              have HVV := Aside0.mk hv
              have HKK := Aside0.mk hkk
              have HKL := Aside0.mk hkl
              have HLT := Aside0.mk (show y.toNat ≤ 256 by have := HG.out; omega)
              clear hv hkk hkl v0w
              generalize rd ks y = vv at *
              generalize kidsT ks y.toNat = kt at *
              by_cases c2 : y > 0
              · have HKK2 : Aside0 (kidsT ks (y + 1).toNat = kt ++ ([32] ++ Lib.itoa vv)) := ⟨by rw [HKK.out, if_pos (by omega)]⟩
                clear HKK
                go_wp2_with (first
                  | ((with_reducible refine gate_builtin (b := .append) (xs := #[.tmp 79, .tmp 80]) rfl ?_); at_builtin; refine wp_app_byte rfl (.tmp 79) (.tmp 80) rfl rfl ⟨_, 0, none⟩ 1 32 rfl ((blk_cell (heap_alloc_new _ (.cells #[.int .u8 32] 5)) 0).trans rfl) (F.out.on (below_alloc (Below.refl _ _) (.cells #[.int .u8 32] 5))).own (F.out.on (below_alloc (Below.refl _ _) (.cells #[.int .u8 32] 5))).be.size (by have := HTL.out; have := HKL.out; have := HLT.out; have h3 := HG.out; (try (have h4 := itoa_len s (by omega) (by omega))); have := itoa_len vv HVV.out.1 HVV.out.2; simp only [List.length_append, List.length_cons, List.length_nil]; omega) ?_; intro v_ w_ ho_ hg_; have F2 := Aside0.mk ((F.out.on (below_alloc (Below.refl _ _) (.cells #[.int .u8 32] 5))).grow ho_ hg_); clear ho_ hg_; clear F; have F := F2; clear F2; clear gc2 k0_ k1_ v0_; obtain ⟨gc2, k0_, k1_⟩ := look F.out W0.out.1 W0.out.2; have v0_ := pw_cell_below F.out.be V0.out)
                  | (go_at_call 52; (with_reducible refine (itoa_any (vv) HVV.out.1 HVV.out.2 _ (HP.out.on F.out.be)).mono ?_); rintro e_ w_ ⟨rfl, hb_⟩; have F2 := Aside0.mk (F.out.on hb_); clear hb_; clear F; have F := F2; clear F2; clear gc2 k0_ k1_ v0_; obtain ⟨gc2, k0_, k1_⟩ := look F.out W0.out.1 W0.out.2; have v0_ := pw_cell_below F.out.be V0.out)
                  | ((with_reducible refine gate_builtin (b := .append) (xs := #[.tmp 82, .tmp 92]) rfl ?_); at_builtin; refine wp_text rfl (.tmp 82) (.tmp 92) rfl rfl _ (Lib.itoa vv) (rfl) rfl F.out.own F.out.be.size (by have := HTL.out; have := HKL.out; have := HLT.out; have h3 := HG.out; (try (have h4 := itoa_len s (by omega) (by omega))); have := itoa_len vv HVV.out.1 HVV.out.2; simp only [List.length_append, List.length_cons, List.length_nil]; omega) ?_; intro v_ w_ ho_ hg_; have F2 := Aside0.mk (F.out.grow ho_ hg_); clear ho_ hg_; clear F; have F := F2; clear F2; clear gc2 k0_ k1_ v0_; obtain ⟨gc2, k0_, k1_⟩ := look F.out W0.out.1 W0.out.2; have v0_ := pw_cell_below F.out.be V0.out))
                go_roundg (ks.length - (y + 1).toNat)
                case measure => go_light; have := HY2.out; omega
                case rel =>
                  go_light
                  exact ⟨y + 1, _, by simp [w2_], rfl, ⟨by omega, by have := HY2.out; omega⟩, ⟨by rw [HKK2.out]; simpa only [List.append_assoc] using F.out⟩⟩
              · have HKK2 : Aside0 (kidsT ks (y + 1).toNat = kt ++ ([] ++ Lib.itoa vv)) := ⟨by rw [HKK.out, if_neg (by omega)]⟩
                clear HKK
                go_wp2_with (first
                  | ((with_reducible refine gate_builtin (b := .append) (xs := #[.tmp 79, .tmp 80]) rfl ?_); at_builtin; refine wp_app_byte rfl (.tmp 79) (.tmp 80) rfl rfl ⟨_, 0, none⟩ 1 32 rfl ((blk_cell (heap_alloc_new _ (.cells #[.int .u8 32] 5)) 0).trans rfl) (F.out.on (below_alloc (Below.refl _ _) (.cells #[.int .u8 32] 5))).own (F.out.on (below_alloc (Below.refl _ _) (.cells #[.int .u8 32] 5))).be.size (by have := HTL.out; have := HKL.out; have := HLT.out; have h3 := HG.out; (try (have h4 := itoa_len s (by omega) (by omega))); have := itoa_len vv HVV.out.1 HVV.out.2; simp only [List.length_append, List.length_cons, List.length_nil]; omega) ?_; intro v_ w_ ho_ hg_; have F2 := Aside0.mk ((F.out.on (below_alloc (Below.refl _ _) (.cells #[.int .u8 32] 5))).grow ho_ hg_); clear ho_ hg_; clear F; have F := F2; clear F2; clear gc2 k0_ k1_ v0_; obtain ⟨gc2, k0_, k1_⟩ := look F.out W0.out.1 W0.out.2; have v0_ := pw_cell_below F.out.be V0.out)
                  | (go_at_call 52; (with_reducible refine (itoa_any (vv) HVV.out.1 HVV.out.2 _ (HP.out.on F.out.be)).mono ?_); rintro e_ w_ ⟨rfl, hb_⟩; have F2 := Aside0.mk (F.out.on hb_); clear hb_; clear F; have F := F2; clear F2; clear gc2 k0_ k1_ v0_; obtain ⟨gc2, k0_, k1_⟩ := look F.out W0.out.1 W0.out.2; have v0_ := pw_cell_below F.out.be V0.out)
                  | ((with_reducible refine gate_builtin (b := .append) (xs := #[.tmp 82, .tmp 92]) rfl ?_); at_builtin; refine wp_text rfl (.tmp 82) (.tmp 92) rfl rfl _ (Lib.itoa vv) (rfl) rfl F.out.own F.out.be.size (by have := HTL.out; have := HKL.out; have := HLT.out; have h3 := HG.out; (try (have h4 := itoa_len s (by omega) (by omega))); have := itoa_len vv HVV.out.1 HVV.out.2; simp only [List.length_append, List.length_cons, List.length_nil]; omega) ?_; intro v_ w_ ho_ hg_; have F2 := Aside0.mk (F.out.grow ho_ hg_); clear ho_ hg_; clear F; have F := F2; clear F2; clear gc2 k0_ k1_ v0_; obtain ⟨gc2, k0_, k1_⟩ := look F.out W0.out.1 W0.out.2; have v0_ := pw_cell_below F.out.be V0.out))
                go_roundg (ks.length - (y + 1).toNat)
                case measure => go_light; have := HY2.out; omega
                case rel =>
                  go_light
                  exact ⟨y + 1, _, by simp [w2_], rfl, ⟨by omega, by have := HY2.out; omega⟩, ⟨by rw [HKK2.out]; simpa only [List.append_assoc, List.nil_append] using F.out⟩⟩
            case neg =>
              have hy : y.toNat = ks.length := by have := HY2.out; omega
              rw [hy] at F
              have hline : T ++ lineT ⟨s, ks⟩ = T ++ kidsT ks ks.length ++ [10] := by
                unfold lineT
                dsimp only
                rw [if_neg hlf]
                simp only [List.append_assoc, List.nil_append]
              have hlen2 : (T ++ kidsT ks ks.length).length ≤ 1900000 := by
                have h1 := KL.out ks.length (Nat.le_refl _)
                have h2 := HTL.out
                have h3 := HG.out
                (try (have h4 := itoa_len s (by omega) (by omega)))
                simp only [List.length_append, List.length_cons, List.length_nil]
                omega
              have HL2 := Aside0.mk hlen2
              rw [hline] at HR2
              have HT3 : Aside0 (((T ++ kidsT ks ks.length ++ [10]).length ≤ 1048576 ∧ restT l d (x.toNat + 1) (T ++ kidsT ks ks.length ++ [10]) = RR) ∨ (1048576 < (T ++ kidsT ks ks.length ++ [10]).length ∧ RR = none)) := ⟨by
                have h := HR2.out
                by_cases b : 1048576 < (T ++ kidsT ks ks.length ++ [10]).length
                · rw [if_pos b] at h
                  exact .inr ⟨b, h.symm⟩
                · rw [if_neg b] at h
                  exact .inl ⟨by omega, h⟩⟩
              have HT4 := Aside0.mk (show (T ++ kidsT ks ks.length ++ [10]).length ≤ 2000000 by rw [List.length_append]; simp only [List.length_cons, List.length_nil]; omega)
              clear hline hlen2 HR2
              go_wp2_with (first
                | ((with_reducible refine gate_builtin (b := .append) (xs := #[.tmp 94, .tmp 95]) rfl ?_); at_builtin; refine wp_app_byte rfl (.tmp 94) (.tmp 95) rfl rfl ⟨_, 0, none⟩ 1 10 rfl ((blk_cell (heap_alloc_new _ (.cells #[.int .u8 10] 5)) 0).trans rfl) (F.out.on (below_alloc (Below.refl _ _) (.cells #[.int .u8 10] 5))).own (F.out.on (below_alloc (Below.refl _ _) (.cells #[.int .u8 10] 5))).be.size (by have := HL2.out; omega) ?_; intro v_ w_ ho_ hg_; have F2 := Aside0.mk ((F.out.on (below_alloc (Below.refl _ _) (.cells #[.int .u8 10] 5))).grow ho_ hg_); clear ho_ hg_; clear F; have F := F2; clear F2; clear gc2 k0_ k1_; obtain ⟨gc2, k0_, k1_⟩ := look F.out W0.out.1 W0.out.2))
              go_roundg d
              case measure => go_light; omega
              case rel =>
                go_light
                exact ⟨x + 1, _, _, by simp [w1_], rfl, ⟨by omega, by have := HX.out; omega⟩, ⟨by rw [show (x + 1).toNat = x.toNat + 1 by omega]; exact HT3.out⟩, HT4, F⟩
end Go.Proofs.YtbnonnogkgbpiaaDoor.OwnZ
end
section
namespace Go.Proofs.YtbnonnogkgbpiaaDoor.LentT
open Go Go.RowKit Go.Proofs.YtbnonnogkgbpiaaDoorW.PrintWords Go.Proofs.YtbnonnogkgbpiaaDoorW.PrintLast Go.Proofs.YtbnonnogkgbpiaaDoorW.PrintMore Go.Proofs.YtbnonnogkgbpiaaDoor.PT Go.Proofs.YtbnonnogkgbpiaaDoor.TreePlain Go.Proofs.YtbnonnogkgbpiaaDoor.TreeText
set_option linter.unusedVariables false
set_option linter.unusedSimpArgs false
def printR (st n : Int) (l : List S49) (rt : Int) : List UInt8 × Int := if chk st n l rt = 0 then printP st n l rt else ([], chk st n l rt)
theorem print_calls (st n : Int) (A : Option Addr) (c : Nat) (l : List S49) (rt : Int) (w : World) (hp : Pow w) (hr : Kd.C k49 w A l.length l) (hc : l.length ≤ c) (hy : Bytes l) :
    Calls Tryd.prog 17 #[.agg #[.int .i64 st, .int .i64 n, .slice A l.length c, .int .i64 rt]] w fun e w' => e = .returned (.tuple #[.string ⟨(printR st n l rt).1.toArray⟩, .int .i64 (printR st n l rt).2]) ∧ Below w.heap.size w w' := by
  obtain ⟨k, hk⟩ := chk_tree st n rt l hy
  unfold printR
  by_cases h : chk st n l rt = 0
  · rw [if_pos h]
    rw [h] at hk
    exact print_ok k st n A c l rt w hp hr hc hk (chk_zero h) hy
  · rw [if_neg h]
    exact print_bad k st n A c l rt _ w hr hc hk (by simpa using h)
theorem rprint_calls (st n : Int) (A : Option Addr) (c : Nat) (l : List S49) (rt : Int) (w : World) (hp : Pow w) (hr : Kd.C k49 w A l.length l) (hc : l.length ≤ c) (hy : Bytes l) :
    Calls Tryd.prog 42 #[.agg #[.int .i64 st, .int .i64 n, .slice A l.length c, .int .i64 rt]] w fun e w' => e = .returned (.tuple #[.string ⟨(printR st n l rt).1.toArray⟩, .int .i64 (printR st n l rt).2]) ∧ Below w.heap.size w w' := by
  obtain ⟨k, hk⟩ := chk_ref st n rt l hy
  unfold printR
  by_cases h : chk st n l rt = 0
  · rw [if_pos h]
    rw [h] at hk
    exact OwnZ.rprint_ok k st n A c l rt w hp hr hc hk (chk_zero h) hy
  · rw [if_neg h]
    exact OwnZ.rprint_bad k st n A c l rt _ w hr hc hk (by simpa using h)
set_option maxHeartbeats 32000000 in
set_option maxRecDepth 100000 in
theorem prints_walk (st n rt : Int) (A : Option Addr) (c : Nat) (l : List S49) (w : World) (hp : Pow w) (hr : Kd.C k49 w A l.length l) (hc : l.length ≤ c) (hl : l.length ≤ 2000000) (hk : ∀ j, (nd l j).f1.length ≤ 2000000) (hy : Bytes l) :
    Calls Tryd.prog 10 #[.agg #[.int .i64 st, .int .i64 n, .slice A l.length c, .int .i64 rt]] w fun e w' => e = .returned (.bool true) ∧ Below w.heap.size w w' := by
  have hu := Tryd.underlying24
  have hPA := fun (W : World) (A : Option Addr) (c : Nat) (hp : Pow W) (h : Kd.C k49 W A l.length l) (hc : l.length ≤ c) => print_calls st n A c l rt W hp h hc hy
  have hPB := fun (W : World) (A : Option Addr) (c : Nat) (hp : Pow W) (h : Kd.C k49 W A l.length l) (hc : l.length ≤ c) => rprint_calls st n A c l rt W hp h hc hy
  generalize printR st n l rt = P1 at hPA hPB
  obtain ⟨s0, code⟩ := P1
  dsimp only at hPA hPB
  generalize (⟨s0.toArray⟩ : ByteArray) = sv at hPA hPB
  have cA := Aside0.mk hPA
  have cB := Aside0.mk hPB
  have cL := Aside0.mk (fun (W : World) (hW : Below w.heap.size w W) => lent_calls st n A c l rt W (Kd.C_below hr hW) hc hl hk)
  have cK := Aside0.mk (fun B gn cn K (W : World) (hL : LentAt B W (.slice (some ⟨gn, 0, none⟩) (l.length + 2) cn) l l.length 2 K) (hW : Below w.heap.size w W) => kept_calls B st n A c l rt gn cn K W hL (Kd.C_below hr hW) hc hl hk)
  have HR := Aside0.mk hr
  have HC := Aside0.mk hc
  have HS := Aside0.mk hl
  have HP := Aside0.mk hp
  have HB := Aside0.mk (Below.refl w.heap.size w)
  clear hr hc hl hk hy hp hPA hPB
  go_enter Tryd.func10, Tryd.ntmps10
  go_wp2_with (first
    | ((with_reducible refine gate_dst (N := 1) rfl ?_); refine box_event ?hg (N := 1) ?hd (cs := #[.int .i64 st, .int .i64 n, .slice A l.length c, .int .i64 rt]) (t := 24) ?hr ?_; (case hd => rfl); (case hg => rfl); (case hr => first | (go_simp; done) | (go_simp; rfl)); intro t2 hg W9 hbox hb; have n_ := below_step HB.out hb; clear HB; have HB := Aside0.mk n_; have BX := Aside0.mk hbox; clear n_ hg hbox hb)
    | (go_at_call 16; (with_reducible refine (AliveT.alive_calls _ (HP.out.on HB.out)).mono ?_); rintro e_ W8 ⟨rfl, hb⟩; have n_ := below_step HB.out hb; have m_ := blk_below BX.out hb; clear HB BX; have HB := Aside0.mk n_; have BX := Aside0.mk m_; obtain ⟨gc0, gc1, gc2, gc3⟩ := four m_; clear n_ m_ hb)
    | (go_at_call 35; (with_reducible refine (cL.out _ HB.out).mono ?_); rintro e_ W7 ⟨gn, cn, K, rfl, hl_, hb⟩; have LA := Aside0.mk (hl_.lower HB.out.size); have n_ := below_step HB.out hb; have m_ := blk_below BX.out hb; clear HB BX gc0 gc1 gc2 gc3; have HB := Aside0.mk n_; have BX := Aside0.mk m_; clear n_ m_ hl_ hb)
    | ((with_reducible refine gate_dst (N := 4) rfl ?_); refine box_event ?hg6 (N := 4) ?hd6 (cs := #[.int .i64 0, .int .i64 0, .slice none 0 0, .int .i64 0]) (t := 24) ?hr6 ?_; (case hd6 => rfl); (case hg6 => rfl); (case hr6 => first | (go_simp; done) | (go_simp; rfl)); intro t6 hg9 W6 hbox hb; have NB := Aside0.mk hbox; have hb9 := Aside0.mk hb; obtain ⟨y0_, y1_, y2_, y3_⟩ := four hbox; have z0_ := blk_frozen hbox 0; have z1_ := blk_frozen hbox 1; have z2_ := blk_frozen hbox 2; have z3_ := blk_frozen hbox 3; have GE := Aside0.mk hg9; clear hbox hb hg9)
    | ((with_reducible refine gate_store (t := 24) (p := 4) rfl ?_); refine store_event (t := 24) (p := 4) (v := ?vo_) (w1 := (((W6.setCell ⟨t6, 0, none⟩ (.int .i64 st)).setCell ⟨t6, 1, none⟩ (.int .i64 n)).setCell ⟨t6, 2, none⟩ (.slice (some ⟨gn, 0, none⟩) l.length cn)).setCell ⟨t6, 3, none⟩ (.int .i64 rt)) ?hgs ?hos ?hns ?hrs ?_; (case hos => rfl); (case hgs => rfl); (case hns => rfl); (case hrs => first | (go_simp; done) | (go_simp; rfl)); rintro W5 rfl; have hb_ : Below W7.heap.size W7 ((((W6.setCell ⟨t6, 0, none⟩ (.int .i64 st)).setCell ⟨t6, 1, none⟩ (.int .i64 n)).setCell ⟨t6, 2, none⟩ (.slice (some ⟨gn, 0, none⟩) l.length cn)).setCell ⟨t6, 3, none⟩ (.int .i64 rt)) := below_set (below_set (below_set (below_set hb9.out (Nat.le_of_eq GE.out.symm)) (Nat.le_of_eq GE.out.symm)) (Nat.le_of_eq GE.out.symm)) (Nat.le_of_eq GE.out.symm); have nb_ := blk_put (blk_put (blk_put (blk_put NB.out 0 (.int .i64 st) rfl) 1 (.int .i64 n) rfl) 2 (.slice (some ⟨gn, 0, none⟩) l.length cn) rfl) 3 (.int .i64 rt) rfl; have F := Aside0.mk (TA.mk (k := .u8) (ty := 5) (vf := .slice none 0 0) (ys := []) (blk_below BX.out hb_) nb_ (LA.out.on hb_) (Kd.R_nil _ _ _ _ _) (HB.out.trans (hb_.mono HB.out.size))); clear y0_ y1_ y2_ y3_ z0_ z1_ z2_ z3_ HB BX LA NB hb9 GE hb_ nb_; generalize (((W6.setCell ⟨t6, 0, none⟩ (.int .i64 st)).setCell ⟨t6, 1, none⟩ (.int .i64 n)).setCell ⟨t6, 2, none⟩ (.slice (some ⟨gn, 0, none⟩) l.length cn)).setCell ⟨t6, 3, none⟩ (.int .i64 rt) = W5 at *; obtain ⟨⟨a0_, a1_, a2_, a3_⟩, ⟨b0_, b1_, b2_, b3_⟩⟩ := F.out.cells)
    | (go_at_call 17; (with_reducible refine (cA.out _ _ _ (HP.out.on F.out.be) (F.out.la.reads (by have := HS.out; omega)) (Nat.le_of_add_right_le (own_cap F.out.la.row))).mono ?_); rintro e_ W2 ⟨rfl, hb⟩; have F4 := Aside0.mk (F.out.on hb); clear F hb; have F := F4; clear F4; clear a0_ a1_ a2_ a3_ b0_ b1_ b2_ b3_; obtain ⟨⟨a0_, a1_, a2_, a3_⟩, ⟨b0_, b1_, b2_, b3_⟩⟩ := F.out.cells)
    | (go_at_call 42; (with_reducible refine (cB.out _ _ _ (HP.out.on F.out.be) (Kd.C_below HR.out F.out.be) HC.out).mono ?_); rintro e_ W2 ⟨rfl, hb⟩; have F4 := Aside0.mk (F.out.on hb); clear F hb; have F := F4; clear F4; clear a0_ a1_ a2_ a3_ b0_ b1_ b2_ b3_; obtain ⟨⟨a0_, a1_, a2_, a3_⟩, ⟨b0_, b1_, b2_, b3_⟩⟩ := F.out.cells)
    | (go_at_call 37; (with_reducible refine (cK.out _ _ _ _ _ F.out.la F.out.be).mono ?_); rintro e_ W2 ⟨rfl, hb⟩; have F4 := Aside0.mk (F.out.on hb); clear F hb; have F := F4; clear F4; clear a0_ a1_ a2_ a3_ b0_ b1_ b2_ b3_; obtain ⟨⟨a0_, a1_, a2_, a3_⟩, ⟨b0_, b1_, b2_, b3_⟩⟩ := F.out.cells))
  go_ret
  exact ⟨by simp, F.out.be⟩
end Go.Proofs.YtbnonnogkgbpiaaDoor.LentT
end
section
namespace Go.Proofs.YtbnonnogkgbpiaaDoor.OpenTree
open Go Go.RowKit Go.ChangeShapes Go.WideShapes Go.Deep Go.Proofs.YtbnonnogkgbpiaaDoorW.PrintWords Go.Proofs.YtbnonnogkgbpiaaDoor.PT Go.Proofs.YtbnonnogkgbpiaaDoor.TreePlain
set_option linter.unusedVariables false
set_option linter.unusedSimpArgs false
set_option maxRecDepth 100000
theorem cells5 : Tryd.prog.cellsOf 5 = 1 := by kernel_rfl
theorem cells47 : Tryd.prog.cellsOf 47 = 1 := by kernel_rfl
theorem cells49 : Tryd.prog.cellsOf 49 = 2 := by kernel_rfl
theorem bulk_pos {H : Type} (d : DataW H) : 1 ≤ Rows.uptoBulk d := by
  cases d with
  | lit l => cases l <;> simp [Rows.uptoBulk]
  | _ => simp [Rows.uptoBulk]
theorem bulk_mem {H : Type} : ∀ (l : List (DataW H)) (d : DataW H), d ∈ l → Rows.uptoBulk d ≤ Rows.uptoBulkAll l
  | x :: l, d, h => by
    simp only [Rows.uptoBulkAll]
    rcases List.mem_cons.1 h with rfl | h
    · omega
    · have := bulk_mem l d h
      omega
theorem bulk_len {H : Type} : ∀ (l : List (DataW H)), l.length ≤ Rows.uptoBulkAll l
  | [] => Nat.zero_le _
  | x :: l => by
    simp only [Rows.uptoBulkAll, List.length_cons]
    have := bulk_len l
    have := bulk_pos x
    omega
theorem bulk_slice {H : Type} (e s : List (DataW H)) : e.length ≤ Rows.uptoBulk (.slice e s) := by
  simp only [Rows.uptoBulk]
  have := bulk_len e
  omega
def wfs (l : List Int) : Prop := ∀ v ∈ l, (Lit.int .i64 v).wf = true
section
variable {H : Type} {enc : TypeId × Value → H} {w : World} {base n : Nat} {held : Bool}
theorem open_ints' {k : IntKind} {t e : TypeId} {v : Value} {x : DataW H × List MemPlace} {spare : Nat → Bool} (ht : Tryd.prog.underlying t = some (.slice e)) (he : Tryd.prog.underlying e = some (.int k)) (hc : Tryd.prog.cellsOf e = 1)
    (h : DataW.trod enc Tryd.prog w base spare held n t [v] = some x) : ∃ (A : Option Addr) (c : Nat) (zs : List Int), v = .slice A zs.length c ∧ zs.length ≤ c ∧ Kd.C (Kd.int k) w A zs.length zs ∧ (∀ v ∈ zs, (Lit.int k v).wf = true) ∧ (zs.length = 0 ∨ ∃ elems rest, elems.length = zs.length ∧ x.1 = .slice elems rest) := by
  rcases Go.ChangeShapes.open_ints ht he hc h with ⟨h1, _⟩ | ⟨a, len, cap, zs, h1, _, hl, hm, hz, hx, hcell, hwf⟩
  · obtain rfl : v = .slice none 0 0 := by simpa using h1
    exact ⟨none, 0, [], rfl, Nat.le_refl _, Kd.C_nil _ _, fun v hv => by simp at hv, .inl rfl⟩
  · obtain rfl : v = .slice (some a) len cap := by simpa using h1
    have hzl : len ≤ zs.length := by rw [hz]; split <;> omega
    have hlen : (zs.take len).length = len := by simp; omega
    refine ⟨some a, cap, zs.take len, by rw [hlen], by rw [hlen]; exact hl, ⟨rfl, by rw [hlen]; simp [maxLen] at hm; omega, fun _ => ⟨a, rfl, fun j p hj => ⟨[.int k p], rfl, rfl, fun i u hu => ?_⟩⟩⟩, fun q hq => hwf q (List.mem_of_mem_take hq), .inr ⟨_, _, ?_, by rw [hx]⟩⟩
    · have hj' : j < len := by
        have := (List.getElem?_eq_some_iff.1 hj).1
        omega
      have hp : zs[j]? = some p := by rwa [List.getElem?_take_of_lt hj'] at hj
      match i, hu with
      | 0, hu =>
        obtain rfl : Value.int k p = u := by simpa using hu
        have := hcell j (by omega)
        rw [List.getD_eq_getElem?_getD, hp] at this
        simpa [Kd.int, Kd.scalar] using this
      | i + 1, hu => simp at hu
    · simp [Go.ChangeShapes.lits]
theorem choose_lt {α : Type} [Inhabited α] {P : Nat → α → Prop} : ∀ {m : Nat}, (∀ i, i < m → ∃ q, P i q) → ∃ f : Nat → α, ∀ i, i < m → P i (f i)
  | 0, _ => ⟨fun _ => default, fun i hi => absurd hi (Nat.not_lt_zero i)⟩
  | m + 1, h => by
    obtain ⟨f, hf⟩ := choose_lt (m := m) (fun i hi => h i (by omega))
    obtain ⟨q, hq⟩ := h m (Nat.lt_succ_self m)
    refine ⟨fun i => if i = m then q else f i, fun i hi => ?_⟩
    by_cases e : i = m
    · subst e
      simpa using hq
    · simp only [if_neg e]
      exact hf i (by omega)
theorem open_nodes {v : Value} {x : DataW H × List MemPlace} (hbk : Rows.uptoBulk x.1 ≤ 1048576) (h : DataW.trod enc Tryd.prog w base (fun _ => true) held n 22 [v] = some x) :
    ∃ (A : Option Addr) (c : Nat) (l : List S49), v = .slice A l.length c ∧ l.length ≤ c ∧ Kd.C k49 w A l.length l ∧ Bytes l ∧ l.length ≤ 1048576 ∧ (∀ j, (nd l j).f1.length ≤ 1048576) ∧ ∀ y ∈ l, wfs y.f1 := by
  rcases open_slice_pairs Tryd.underlying22 Tryd.underlying49 cells49 rfl rfl cells5 cells47 h with ⟨h1, _⟩ | ⟨ad, len, cap, m, n', V0, V1, D0, D1, P0, P1, h1, _, hl, hm, hmm, hx, hall⟩
  · obtain rfl : v = .slice none 0 0 := by simpa using h1
    exact ⟨none, 0, [], rfl, Nat.le_refl _, Kd.C_nil _ _, fun y hy => by simp at hy, Nat.zero_le _, fun j => by simp [nd, z49], fun y hy => by simp at hy⟩
  · obtain rfl : v = .slice (some ad) len cap := by simpa using h1
    have hlm : len ≤ m := by rw [hmm]; split <;> omega
    have hd2 : x.1 = .slice ((List.range len).map fun i => .agg [D0 i, D1 i]) ((List.range (m - len)).map fun j => .agg [D0 (len + j), D1 (len + j)]) := congrArg Prod.fst hx
    have each : ∀ i, i < len → ∃ q : Int × Option Addr × Nat × List Int, V0 i = .int .u8 q.1 ∧ V1 i = .slice q.2.1 q.2.2.2.length q.2.2.1 ∧ q.2.2.2.length ≤ q.2.2.1 ∧ Kd.C (Kd.int .i64) w q.2.1 q.2.2.2.length q.2.2.2 ∧ wfs q.2.2.2 ∧ q.2.2.2.length ≤ 1048576 ∧ (0 ≤ q.1 ∧ q.1 ≤ 255) := by
      intro i hi
      obtain ⟨_, _, g0, g1⟩ := hall i (by omega)
      have g0' : DataW.trod enc Tryd.prog w base (fun _ => true) held n' 5 [V0 i] = some (D0 i, P0 i) := g0
      have g1' : DataW.trod enc Tryd.prog w base (fun _ => true) held n' 47 [V1 i] = some (D1 i, P1 i) := g1
      obtain ⟨z, e0, _, wz⟩ := DataW.trod_int Tryd.underlying5 g0'
      obtain ⟨A, c, zs, eb, hl2, hC, hu, hdz⟩ := open_ints' Tryd.underlying47 Tryd.underlying3 (by kernel_rfl) g1'
      refine ⟨(z, A, c, zs), by simpa using e0, eb, hl2, hC, hu, ?_, ?_⟩
      · rcases hdz with h0 | ⟨el, sp, hel, hdz⟩
        · show zs.length ≤ _
          omega
        · have hdz : D1 i = .slice el sp := hdz
          have h1 := bulk_slice el sp
          have h2 : Rows.uptoBulk (D1 i) ≤ Rows.uptoBulk (DataW.agg [D0 i, D1 i]) := by
            simp only [Rows.uptoBulk, Rows.uptoBulkAll]
            omega
          have h3 := bulk_mem ((List.range len).map fun i => DataW.agg [D0 i, D1 i]) _ (List.mem_map.2 ⟨i, List.mem_range.2 hi, rfl⟩)
          have h4 : Rows.uptoBulkAll ((List.range len).map fun i => DataW.agg [D0 i, D1 i]) ≤ Rows.uptoBulk x.1 := by
            rw [hd2]
            simp only [Rows.uptoBulk]
            omega
          rw [hdz] at h2 h3
          show zs.length ≤ _
          simp only [hdz] at *
          omega
      · show 0 ≤ z ∧ z ≤ 255
        simp [Lit.wf, IntKind.min, IntKind.max, IntKind.bits, IntKind.signed] at wz
        omega
    obtain ⟨q, hq⟩ := choose_lt each
    have hll : ((List.range len).map fun i => (⟨(q i).1, (q i).2.2.2⟩ : S49)).length = len := by simp
    have hget : ∀ i, i < len → ((List.range len).map fun i => (⟨(q i).1, (q i).2.2.2⟩ : S49))[i]? = some ⟨(q i).1, (q i).2.2.2⟩ := fun i hi => by
      rw [List.getElem?_map, List.getElem?_range hi]
      rfl
    have hin : ∀ y ∈ ((List.range len).map fun i => (⟨(q i).1, (q i).2.2.2⟩ : S49)), ∃ i, i < len ∧ y = ⟨(q i).1, (q i).2.2.2⟩ := fun y hy => by
      obtain ⟨i, hi, rfl⟩ := List.mem_map.1 hy
      exact ⟨i, List.mem_range.1 hi, rfl⟩
    have hlen : len ≤ 1048576 := by
      have h1 := bulk_slice ((List.range len).map fun i => DataW.agg [D0 i, D1 i]) ((List.range (m - len)).map fun j => .agg [D0 (len + j), D1 (len + j)])
      rw [← hd2] at h1
      simp at h1
      omega
    refine ⟨some ad, cap, (List.range len).map fun i => ⟨(q i).1, (q i).2.2.2⟩, by rw [hll], by rw [hll]; exact hl, ⟨rfl, by rw [hll]; simp [maxLen] at hm; omega, fun _ => ⟨ad, rfl, fun j p hj => ?_⟩⟩, fun y hy => ?_, by rw [hll]; exact hlen, fun j => ?_, fun y hy => ?_⟩
    · have hj' : j < len := by
        have := (List.getElem?_eq_some_iff.1 hj).1
        omega
      rw [hget j hj'] at hj
      obtain rfl := Option.some.inj hj
      obtain ⟨q1, q2, q3, q4, q5, q6, q7⟩ := hq j hj'
      obtain ⟨k0, k1, _, _⟩ := hall j (by omega)
      rw [q1] at k0
      rw [q2] at k1
      exact ⟨_, rfl, k49_mk w ⟨(q j).1, (q j).2.2.2⟩ q3 q4, fun i u hu => by
        match i, hu with
        | 0, hu => obtain rfl := Option.some.inj hu; exact k0
        | 1, hu => obtain rfl := Option.some.inj hu; exact k1⟩
    · obtain ⟨i, hi, rfl⟩ := hin y hy
      exact (hq i hi).2.2.2.2.2.2
    · unfold nd
      rw [List.getD_eq_getElem?_getD]
      by_cases e : j < len
      · rw [hget j e]
        exact (hq j e).2.2.2.2.2.1
      · rw [List.getElem?_eq_none (by rw [hll]; omega)]
        simp [z49]
    · obtain ⟨i, hi, rfl⟩ := hin y hy
      exact (hq i hi).2.2.2.2.1
end
end Go.Proofs.YtbnonnogkgbpiaaDoor.OpenTree
end
section
namespace Go.Proofs.YtbnonnogkgbpiaaDoor.treePrints
open Go.ChangeShapes Go.WideShapes Go.ChangeAt Go.RowKit Go.Joins Go.Deep
open Go.ChangeMaps (open_string shut_string)
set_option linter.unusedVariables false
theorem own : ownKnob Tryd.prog.godebug = none := by kernel_rfl
theorem laidOut : laidOutB Tryd.prog = true := by kernel_rfl
theorem open_agg_4 {H : Type} {enc : TypeId × Value → H} {P : Program} {w : World} {base : Nat} {spare : Nat → Bool} {held : Bool} {r : Reach} {b0 : Nat} {t : TypeId} {f0 f1 f2 f3 : Field} {v : Value} {d : DataW H} {p : List MemPlace} (hs : P.underlying t = some (.struct #[f0, f1, f2, f3])) (hone : oneCellFields P #[f0, f1, f2, f3] = true) (hC : P.cellsOf t = 4)
    (hv : Value.okWide P w r b0 t v) (h : DataW.Trod enc P w base spare held t v d p) :
    ∃ (v0 v1 v2 v3 : Value) (y0 y1 y2 y3 : DataW H × List MemPlace) (n : Nat), v = .agg #[v0, v1, v2, v3] ∧ d = .agg [y0.1, y1.1, y2.1, y3.1] ∧ DataW.trod enc P w base spare held n f0.type [v0] = some y0 ∧ DataW.trod enc P w base spare held n f1.type [v1] = some y1 ∧ DataW.trod enc P w base spare held n f2.type [v2] = some y2 ∧ DataW.trod enc P w base spare held n f3.type [v3] = some y3 := by
  obtain ⟨cs, rfl, hsz⟩ := okWide_struct hs hv
  obtain ⟨l⟩ := cs
  match l, hsz.trans hC with
  | [c0, c1, c2, c3], _ =>
    obtain ⟨fuel, hf⟩ := h
    obtain ⟨xs, n, _, hx, _, hlen, hg⟩ := DataW.trod_struct hs hf
    obtain ⟨o0, k0⟩ := hone_of hone 0 f0 rfl
    obtain ⟨o1, k1⟩ := hone_of hone 1 f1 rfl
    obtain ⟨o2, k2⟩ := hone_of hone 2 f2 rfl
    obtain ⟨o3, k3⟩ := hone_of hone 3 f3 rfl
    match xs, hlen with
    | [y0, y1, y2, y3], _ =>
      simp only [Prod.mk.injEq] at hx
      exact ⟨c0, c1, c2, c3, y0, y1, y2, y3, n, rfl, by simpa using hx.1, by simpa [Value.cells, o0, k0] using hg 0 f0 rfl, by simpa [Value.cells, o1, k1] using hg 1 f1 rfl, by simpa [Value.cells, o2, k2] using hg 2 f2 rfl, by simpa [Value.cells, o3, k3] using hg 3 f3 rfl⟩
theorem laidPlain {W : World} (h : laidMetH Tryd.prog Rows.treePrintsUptoRow.laid W) : laidMet Tryd.prog Rows.treePrintsUptoRow.laid W := by
  rw [MakeChecks.laidMetH_plain _ _ _ (by kernel_rfl)] at h; exact h
theorem pow10 {W : World} (h : laidMetH Tryd.prog Rows.treePrintsUptoRow.laid W) : Lib.TabIs Tryd.prog W "internal/strconv.uint64pow10" .u64 Lib.pow10Tab :=
  Lib.tabIs_of_head (g := 0) (t := 153) (e := 147) (n := 20) (by kernel_rfl) (by kernel_rfl) Tryd.underlying153 Tryd.underlying147 (by kernel_rfl) (by kernel_rfl) (laidMet.tail (laidMet.tail (laidPlain h)))
theorem door_met (os : Os) (args : Array Value) : laidMetH Tryd.prog Rows.treePrintsUptoRow.laid ((World.doorLaid Tryd.prog 24 os).forCall (fun _ _ => 0) ⟨#[], args, []⟩).memory :=
  laidMetH_of_parts3 (fuel := 8) (laidMet_of_run' 8 (by kernel_rfl) (by kernel_rfl)) (by kernel_rfl) (by kernel_rfl)
set_option maxRecDepth 100000 in
theorem reads (os : Os) {H : Type} (enc : TypeId × Value → H) : ∃ places, DataW.whole enc Tryd.prog ((World.doorLaid Tryd.prog 24 os).forCall (fun _ _ => 0) ⟨#[], #[.agg #[.int .i64 0, .int .i64 0, .slice none 0 0, .int .i64 0]], []⟩).memory Tryd.f10.params.toList Rows.treePrintsSpec.vars false (#[.agg #[.int .i64 0, .int .i64 0, .slice none 0 0, .int .i64 0]] : Array Value).toList 8 = some ([.agg [.lit (.int .i64 0), .lit (.int .i64 0), .nil, .lit (.int .i64 0)]], [], places) := ⟨[], by kernel_rfl⟩
set_option maxRecDepth 100000 in
theorem lifted (os : Os) (started : os.Started) (H : Type) (enc : TypeId × Value → H) (F : Stop.Interp) :
    ReturnsInHanded {} Tryd.checked os 10 .any ((Rows.OpenSpec.upto Rows.treePrintsSpec).preRow enc Tryd.prog Tryd.f10 Rows.treePrintsUptoRow.domain false Rows.treePrintsUptoRow.laid) (((Rows.OpenSpec.upto Rows.treePrintsSpec).at F).post enc Tryd.prog Tryd.f10 false true false false) := by
  obtain ⟨places, hx⟩ := reads os enc
  refine returnsInHanded_of_row (C := Tryd.checked) (s := Rows.OpenSpec.upto Rows.treePrintsSpec) own started (by kernel_rfl) Tryd.func10
    (witness_row_atRef (enc := enc) (C := Tryd.checked) false (World.doorLaid Tryd.prog 24 os) #[.agg #[.int .i64 0, .int .i64 0, .slice none 0 0, .int .i64 0]] rfl (by kernel_rfl) (by kernel_rfl) (by kernel_rfl)
      (OpenSpec.preRow_of_cond 8 hx (by kernel_rfl) (fun k hk => by cases hk; kernel_rfl) (by kernel_rfl) (door_met os _))) ?_
  intro W base args ds gs before hval0 hW _ hcond hsz0 hL _ _
  have hk_ := hcond _ rfl
  have hsz : (DataW.weightsEach Tryd.prog (Tryd.f10.params.toList ++ Rows.treePrintsSpec.plain.varTypes Tryd.prog) (ds ++ gs)).all (· ≤ reachBytes) = true := hsz0
  have hval : ∀ (j : Nat) t v, Tryd.f10.params[j]? = some t → args[j]? = some v → Value.okWide Tryd.prog W .any base t v := hval0
  have hW' := hW
  obtain ⟨p, q, hA0, hV, rfl, hfz, hnd⟩ := hW
  have hA : DataW.TrodAll enc Tryd.prog W 0 (fun _ => true) true Tryd.f10.params.toList args.toList ds p := hA0
  rw [Tryd.params10] at hA hval hsz
  obtain ⟨v0, vs0, d0, ds0, p0, q0, hargs, rfl, rfl, h0, r0⟩ := trodAll_cons hA
  obtain ⟨rfl, rfl, rfl⟩ := trodAll_nil r0
  obtain rfl : args = #[v0] := by cases args; simp_all
  obtain ⟨rfl, rfl⟩ := trodVars_none hV
  have k0 := h0
  have lt0 : ∀ x ∈ p0, x.block < W.heap.size := by obtain ⟨m, hm⟩ := k0; exact DataW.trod_lt m _ _ _ hm
  obtain ⟨c0_0, c0_1, c0_2, c0_3, x0_0, x0_1, x0_2, x0_3, m0, rfl, rfl, g0_0, g0_1, g0_2, g0_3⟩ := open_agg_4 Tryd.underlying24 (by kernel_rfl) (by kernel_rfl) (hval 0 24 v0 rfl rfl) h0
  obtain ⟨a0_0, e0_0, _, w0_0⟩ := DataW.trod_int Tryd.underlying3 g0_0
  obtain rfl : c0_0 = .int .i64 a0_0 := by simpa using e0_0
  obtain ⟨a0_1, e0_1, _, w0_1⟩ := DataW.trod_int Tryd.underlying3 g0_1
  obtain rfl : c0_1 = .int .i64 a0_1 := by simpa using e0_1
  obtain ⟨a0_3, e0_3, _, w0_3⟩ := DataW.trod_int Tryd.underlying3 g0_3
  obtain rfl : c0_3 = .int .i64 a0_3 := by simpa using e0_3
  clear hA0 hval0 hsz0
  clear hsz
  have done : ∀ W', Below W.heap.size W W' → ∃ r, (Ending.returned (.bool true)) = .returned r ∧ Rows.treePrintsSpec.post enc Tryd.prog Tryd.f10 false true false false W #[.agg #[.int .i64 a0_0, .int .i64 a0_1, c0_2, .int .i64 a0_3]] r W' := fun W' bel =>
    ⟨_, rfl, _, _, _, [], _, [], hW', trodAll_mk1 (shut_bool Tryd.underlying4 _), (trodAll_cons_mk (Below.trod laidOut (by kernel_rfl) (of_decide_eq_true (by kernel_rfl)) k0 bel lt0) trodAll_mk0), rfl, bel.frame _, fun h => by cases h⟩
  have hb_ := of_decide_eq_true hk_
  have hb0 : Rows.uptoBulk x0_2.1 ≤ 1048576 := by simp only [List.append_nil, Rows.uptoBulkAll, Rows.uptoBulk] at hb_; omega
  obtain ⟨A0, c0, l0, rfl, hl0, hC0, hy0, hn0, hk0, hw0⟩ := OpenTree.open_nodes hb0 g0_2
  refine (LentT.prints_walk a0_0 a0_1 a0_3 A0 c0 l0 W (pow10 hL) hC0 hl0 (by omega) (fun j => Nat.le_trans (hk0 j) (by decide)) hy0).mono fun e W' ⟨he, bel⟩ => ?_
  subst he
  exact done W' bel
theorem said : Rows.TreePrintsUptoSaid :=
  OpenClaim.holds_of_cond 10 Tryd.f10 rfl rfl rfl rfl rfl rfl rfl ⟨rfl, rfl, rfl, rfl, rfl⟩ rfl rfl rfl rfl rfl (by kernel_rfl) Tryd.func10 (by kernel_rfl)
    (of_decide_eq_true (by kernel_rfl)) (by unfold Func.isWrapper; first | (rw [if_pos (by decide +kernel)]; kernel_rfl) | (rw [if_neg (by decide +kernel)]; exact ⟨rfl, rfl⟩))
    (fun os started H enc _ F => by rw [OpenClaim.pre_eq_preRow]; exact lifted os started H enc F)
theorem plain (f : FuncId) (fn : Func) (hf : Tryd.pinned.checked.prog.funcNamed "vivarium/vivariumlaw11.TreePrints" = some f) (hfn : Tryd.pinned.checked.prog.funcs[f]? = some fn) :
    false = Tryd.pinned.checked.prog.looks [] ∧ ∀ (j : Nat) t, fn.params[j]? = some t → Tryd.pinned.checked.prog.wantsStandIn t = false := by
  obtain rfl : f = 10 := Option.some.inj ((show Tryd.prog.funcNamed "vivarium/vivariumlaw11.TreePrints" = some 10 by kernel_rfl).symm.trans hf) |>.symm
  obtain rfl : fn = Tryd.f10 := (Option.some.inj (Tryd.func10.symm.trans hfn)).symm
  refine ⟨by kernel_rfl, fun j t ht => ?_⟩
  rw [Tryd.params10] at ht
  have hm : t ∈ [24] := by simpa using Array.mem_of_getElem? ht
  have hall : ([24].all fun u => !Tryd.prog.wantsStandIn u) = true := by kernel_rfl
  exact (show Tryd.prog.wantsStandIn t = false by simpa using List.all_eq_true.1 hall t hm)
theorem card : Rows.TreePrintsUptoCardSaid :=
  Claim7.holds_tied_plain_at .later [] _ _ _ _ said (fun _ h => by cases h) (by kernel_rfl) (fun _ h => by cases h) treePrintsUpto_row_tie rfl ⟨rfl, rfl⟩ (by kernel_rfl) rfl plain (by kernel_rfl)
end Go.Proofs.YtbnonnogkgbpiaaDoor.treePrints
namespace Go.Proofs.YtbnonnogkgbpiaaDoor
theorem treePrints_holds : Rows.TreePrintsUptoCardSaid := treePrints.card
#print axioms treePrints_holds
end Go.Proofs.YtbnonnogkgbpiaaDoor
end
